/- The laws of replicas, fifth part: some, merged. -/
import Derived.Test.YtcpfogbjbinjcaaGsK7
set_option linter.all false
namespace Go.Proofs.Ytcpfogbjbinjcaa
open Go.RowKit Go.ChangeMaps

/-- bit k of a mask -/
def selB (mask : Int) (k : Nat) : Bool := (mask / 2 ^ (k % 64)).tmod 2 == 1
def SomePost (w : World) (N : Int) (S : List Ev) (mask : Int) (o : Ending) (w' : World) : Prop :=
  ∃ (p bm : Nat) (L : List Ev) (y : Since w), o = .returned (.pointer (some ⟨p, 0, none⟩)) ∧ w' = y.w ∧ w.heap.size ≤ bm ∧ RepAt y.w p bm N L ∧ Sub S L ∧ ∀ e, e ∈ L ↔ ∃ i, S[i]? = some e ∧ selB mask i = true
theorem some_mem {S L L' : List Ev} {mask : Int} {e1 : Ev} {P P' : Nat → Prop} {i : Nat} (he : S[i]? = some e1) (hP : ∀ j, P' j ↔ P j ∨ j = i) (hs : selB mask i = true) (h : ∀ e, e ∈ L ↔ ∃ j, P j ∧ S[j]? = some e ∧ selB mask j = true) (hm : ∀ x, x ∈ L' ↔ x ∈ L ∨ x = e1) :
    ∀ e, e ∈ L' ↔ ∃ j, P' j ∧ S[j]? = some e ∧ selB mask j = true := by
  intro e
  rw [hm, h]
  constructor
  · rintro (⟨j, h1, h2, h3⟩ | rfl)
    · exact ⟨j, (hP j).2 (.inl h1), h2, h3⟩
    · exact ⟨i, (hP i).2 (.inr rfl), he, hs⟩
  · rintro ⟨j, h1, h2, h3⟩
    rcases (hP j).1 h1 with h1 | rfl
    · exact .inl ⟨j, h1, h2, h3⟩
    · rw [he] at h2; cases h2; exact .inr rfl
theorem some_same {S L : List Ev} {mask : Int} {P P' : Nat → Prop} {i : Nat} (hP : ∀ j, P' j ↔ P j ∨ j = i) (hs : selB mask i = false) (h : ∀ e, e ∈ L ↔ ∃ j, P j ∧ S[j]? = some e ∧ selB mask j = true) :
    ∀ e, e ∈ L ↔ ∃ j, P' j ∧ S[j]? = some e ∧ selB mask j = true := by
  intro e
  rw [h]
  constructor
  · rintro ⟨j, h1, h2, h3⟩
    exact ⟨j, (hP j).2 (.inl h1), h2, h3⟩
  · rintro ⟨j, h1, h2, h3⟩
    rcases (hP j).1 h1 with h1 | rfl
    · exact ⟨j, h1, h2, h3⟩
    · rw [hs] at h3; cases h3
set_option maxRecDepth 100000 in
set_option maxHeartbeats 16000000 in
theorem some_calls (w : World) (x : Since w) (N : Nat) (la : Option Addr) (S : List Ev) (lc : Nat) (mask : Int) (back : Bool) (hl : EvRow w la S) (hI : Inv N S) (h1 : 1 ≤ (N : Int)) (h2 : (N : Int) ≤ 256) (hm0 : 0 ≤ mask) (hm1 : mask < 18446744073709551616) :
    Calls Try.prog 30 #[.int .i64 N, .slice la S.length lc, .int .u64 mask, .bool back] x.w (SomePost w N S mask) := by
  have HL := Lib.hid hl; have HI := Lib.hid hI
  have hS5 := hI.len
  clear hl hI
  cases back with
  | false =>
    go_enter Try.func30, Try.ntmps30
    go_wp2_with (go_at_call 13; refine (new_s w _ (N : Int) h1 h2).mono ?_; rintro _ _ ⟨p, bm, y0, rfl, rfl, hz, hb, hR⟩; have HR := Lib.hid hR; have Hb := Lib.hid (Nat.le_trans x.b.size hb); clear hR hb hz)
    go_loopw [11] (fun i wr => ∃ (k : Nat) (L : List Ev) (y : Since w), k ≤ S.length ∧ i = .int .i64 k ∧ wr = y.w ∧ RepAt y.w p bm N L ∧ Sub S L ∧ ∀ e, e ∈ L ↔ ∃ j, j < k ∧ S[j]? = some e ∧ selB mask j = true) (fun i _ => S.length - (intOf i).toNat)
    case atStart => exact ⟨0, [], _, by omega, rfl, rfl, HR.out, sub_nil _, fun e => ⟨fun h => (by cases h), fun ⟨j, h, _⟩ => (by omega)⟩⟩
    case round =>
      clear HR
      obtain ⟨k, L, y, hk, rfl, rfl, hR, hSub, hmem⟩ := hrel
      have HR := Lib.hid hR; have HSub := Lib.hid hSub; have Hmem := Lib.hid hmem
      clear hR hSub hmem
      by_cases hlt : k < S.length
      · obtain ⟨e1, he⟩ : ∃ e, S[k]? = some e := ⟨_, List.getElem?_eq_getElem hlt⟩
        obtain ⟨b1, off1, rfl, h1'⟩ := Els.ev HL.out he
        have pa0 := h1'.c0
        have pa1 := h1'.c1
        have pa2 := h1'.c2
        have pa3 := h1'.c3
        have pa4 := h1'.c4
        have pa5 := h1'.c5
        have pa6 := h1'.c6
        have pa7 := h1'.c7
        have pa8 := h1'.c8
        have He := Lib.hid he
        have hk0 : (0 : Int) ≤ (k : Int) := by omega
        have hkl : (k : Int) < (S.length : Int) := by omega
        clear h1' he
        cases hsel : selB mask k with
        | true =>
          have Hsel := Lib.hid hsel
          have hs2 : ((mask / 2 ^ (k % 64)).tmod 2 == 1) = true := hsel
          clear hsel
          go_wp2_with (go_at_call 16; refine (add_in w _ p bm N S L e1 Hb.out HR.out HI.out HSub.out (List.mem_of_getElem? He.out)).mono ?_; rintro _ _ ⟨bb, y2, L', rfl, rfl, hR, hg, hsub, hm⟩; replace HR := Lib.hid hR; have HSub2 := Lib.hid hsub; have Hm := Lib.hid hm; clear hR hg hsub hm)
          go_roundw
          case rel => exact ⟨k + 1, L', _, by omega, by go_num, rfl, HR.out, HSub2.out, some_mem He.out (fun j => by omega) Hsel.out Hmem.out Hm.out⟩
          case measure => simp [intOf] <;> omega
        | false =>
          have Hsel := Lib.hid hsel
          have hs2 : ((mask / 2 ^ (k % 64)).tmod 2 == 1) = false := hsel
          clear hsel
          go_wp2_with fail
          go_roundw
          case rel => exact ⟨k + 1, L, _, by omega, by go_num, rfl, HR.out, HSub.out, some_same (fun j => by omega) Hsel.out Hmem.out⟩
          case measure => simp [intOf] <;> omega
      · obtain rfl : k = S.length := by omega
        go_wp2_with fail
        go_ret
        exact ⟨p, bm, L, y, rfl, rfl, Hb.out, HR.out, HSub.out, fun e => by rw [Hmem.out]; exact ⟨fun ⟨j, _, h⟩ => ⟨j, h⟩, fun ⟨j, h⟩ => ⟨j, (List.getElem?_eq_some_iff.1 h.1).1, h⟩⟩⟩
  | true =>
    go_enter Try.func30, Try.ntmps30
    go_wp2_with (go_at_call 13; refine (new_s w _ (N : Int) h1 h2).mono ?_; rintro _ _ ⟨p, bm, y0, rfl, rfl, hz, hb, hR⟩; have HR := Lib.hid hR; have Hb := Lib.hid (Nat.le_trans x.b.size hb); clear hR hb hz)
    go_loopw [11] (fun i wr => ∃ (k : Nat) (L : List Ev) (y : Since w), k ≤ S.length ∧ i = .int .i64 k ∧ wr = y.w ∧ RepAt y.w p bm N L ∧ Sub S L ∧ ∀ e, e ∈ L ↔ ∃ j, S.length - k ≤ j ∧ S[j]? = some e ∧ selB mask j = true) (fun i _ => S.length - (intOf i).toNat)
    case atStart => exact ⟨0, [], _, by omega, rfl, rfl, HR.out, sub_nil _, fun e => ⟨fun h => (by cases h), fun ⟨j, h, h3, _⟩ => by have := (List.getElem?_eq_some_iff.1 h3).1; omega⟩⟩
    case round =>
      clear HR
      obtain ⟨k, L, y, hk, rfl, rfl, hR, hSub, hmem⟩ := hrel
      have HR := Lib.hid hR; have HSub := Lib.hid hSub; have Hmem := Lib.hid hmem
      clear hR hSub hmem
      by_cases hlt : k < S.length
      · obtain ⟨j, hj⟩ : ∃ j : Nat, (S.length : Int) - 1 - (k : Int) = j := ⟨((S.length : Int) - 1 - (k : Int)).toNat, by omega⟩
        have hjl0 : j < S.length := by omega
        obtain ⟨e1, he⟩ : ∃ e, S[j]? = some e := ⟨_, List.getElem?_eq_getElem hjl0⟩
        obtain ⟨b1, off1, rfl, h1'⟩ := Els.ev HL.out he
        have pa0 := h1'.c0
        have pa1 := h1'.c1
        have pa2 := h1'.c2
        have pa3 := h1'.c3
        have pa4 := h1'.c4
        have pa5 := h1'.c5
        have pa6 := h1'.c6
        have pa7 := h1'.c7
        have pa8 := h1'.c8
        have He := Lib.hid he
        have hk0 : (0 : Int) ≤ (k : Int) := by omega
        have hkl : (k : Int) < (S.length : Int) := by omega
        have hj0 : (0 : Int) ≤ (j : Int) := by omega
        have hjl : (j : Int) < (S.length : Int) := by omega
        have Hj := Lib.hid (show S.length - (k + 1) = j by omega)
        clear h1' he
        cases hsel : selB mask j with
        | true =>
          have Hsel := Lib.hid hsel
          have hs2 : ((mask / 2 ^ (j % 64)).tmod 2 == 1) = true := hsel
          clear hsel
          go_wp2_with (go_at_call 16; refine (add_in w _ p bm N S L e1 Hb.out HR.out HI.out HSub.out (List.mem_of_getElem? He.out)).mono ?_; rintro _ _ ⟨bb, y2, L', rfl, rfl, hR, hg, hsub, hm⟩; replace HR := Lib.hid hR; have HSub2 := Lib.hid hsub; have Hm := Lib.hid hm; clear hR hg hsub hm)
          go_roundw
          case rel => exact ⟨k + 1, L', _, by omega, by go_num, rfl, HR.out, HSub2.out, some_mem He.out (fun i => by have := Hj.out; omega) Hsel.out Hmem.out Hm.out⟩
          case measure => simp [intOf] <;> omega
        | false =>
          have Hsel := Lib.hid hsel
          have hs2 : ((mask / 2 ^ (j % 64)).tmod 2 == 1) = false := hsel
          clear hsel
          go_wp2_with fail
          go_roundw
          case rel => exact ⟨k + 1, L, _, by omega, by go_num, rfl, HR.out, HSub.out, some_same (fun i => by have := Hj.out; omega) Hsel.out Hmem.out⟩
          case measure => simp [intOf] <;> omega
      · obtain rfl : k = S.length := by omega
        go_wp2_with fail
        go_ret
        exact ⟨p, bm, L, y, rfl, rfl, Hb.out, HR.out, HSub.out, fun e => by rw [Hmem.out]; exact ⟨fun ⟨j, _, h⟩ => ⟨j, h⟩, fun ⟨j, h⟩ => ⟨j, by omega, h⟩⟩⟩
/-- merging into a copy -/
theorem merged_s (w : World) (y : Since w) (p bm p2 bm2 : Nat) (N : Int) (S L M : List Ev) (hR : RepAt y.w p bm N L) (hR2 : RepAt y.w p2 bm2 N M) (hI : Inv N S) (hL : Sub S L) (hM : Sub S M) :
    Calls Try.prog 31 #[.pointer (some ⟨p, 0, none⟩), .pointer (some ⟨p2, 0, none⟩)] y.w fun o w' => ∃ (p' bm' : Nat) (K : List Ev) (y' : Since w), o = .returned (.tuple #[.pointer (some ⟨p', 0, none⟩), .bool true]) ∧ w' = y'.w ∧ IsSince y.w y'.w ∧ RepAt y'.w p' bm' N K ∧ Sub S K ∧ ∀ e, e ∈ K ↔ e ∈ L ∨ e ∈ M := by
  have hm := sub_all hI (sortE M) L hL (fun x hx => hM.sub x ((sortE_mem M x).1 hx))
  have Hm := Lib.hid hm
  have HR := Lib.hid hR; have HR2 := Lib.hid hR2; have HIM := Lib.hid (sub_inv hI hM)
  clear hm hR hR2 hI hL hM
  have Hc := Lib.hid (copy_s y.w (Since.self y.w) p bm N L HR.out)
  go_enter Try.func31, Try.ntmps31
  go_wp2_with (first
    | (go_at_call 26; refine Hc.out.mono ?_; rintro _ _ ⟨p3, bm3, y1, rfl, rfl, hz, hb, hR⟩; have HR3 := Lib.hid hR; have Hb := Lib.hid hb; replace HR2 := Lib.hid (HR2.out.since y1); clear hz hb hR)
    | (go_at_call 28; refine (merge_s y.w _ p3 bm3 p2 bm2 N L M Hb.out HR3.out HR2.out HIM.out).mono ?_; rintro _ _ ⟨rfl, y2, rfl, hR, hg⟩; rw [Hm.out.1]; replace HR3 := Lib.hid hR; clear hR hg))
  go_ret2
  obtain ⟨y', e⟩ := y.trans y2
  exact ⟨p3, bm3, _, y', rfl, e, ⟨y2, e.symm⟩, e ▸ HR3.out, Hm.out.2.1, fun x => by rw [Hm.out.2.2, sortE_mem]⟩
end Go.Proofs.Ytcpfogbjbinjcaa
