/- The laws of replicas: GossipMerges. -/
import Derived.Test.YtcpfogbjbinjcaaGsK8
set_option linter.all false
namespace Go.Proofs.Ytcpfogbjbinjcaa
open Go.RowKit Go.ChangeMaps

theorem eventsP_s (w : World) (y : Since w) (p bm : Nat) (n : Int) (l m : List Ev) (hR : RepAt y.w p bm n l) (hI : Inv n l) (he : sortE l = sortE m) :
    Calls Try.prog 19 #[.pointer (some ⟨p, 0, none⟩)] y.w fun o w' => ∃ (a : Option Addr) (cap : Nat) (y' : Since w), o = .returned (.slice a (sortE m).length cap) ∧ w' = y'.w ∧ IsSince y.w y'.w ∧ EvRow y'.w a (sortE m) :=
  he ▸ events_s w y p bm n l hR hI
theorem sortE_same {S A B : List Ev} (hA : Sub S A) (hB : Sub S B) (h : ∀ e, e ∈ A ↔ e ∈ B) : sortE A = sortE B := sortE_congr (sub_perm hA hB h)
theorem mem_take_next {l : List Ev} {k : Nat} {u : Ev} (h : l[k]? = some u) (e : Ev) : e ∈ l.take (k + 1) ↔ e ∈ l.take k ∨ e = u := by rw [take_next h]; simp
theorem sel_iff {S A : List Ev} {mask : Int} (hn : S.Nodup) (hm : ∀ e, e ∈ A ↔ ∃ i, S[i]? = some e ∧ selB mask i = true) {k : Nat} {e : Ev} (he : S[k]? = some e) : decide (e ∈ A) = selB mask k := by
  cases hs : selB mask k
  · refine decide_eq_false fun h => ?_
    obtain ⟨i, hi, hsi⟩ := (hm e).1 h
    have : i = k := by
      have h1 := List.getElem?_eq_some_iff.1 hi
      have h2 := List.getElem?_eq_some_iff.1 he
      exact (List.getElem_inj hn).1 (h1.2.trans h2.2.symm)
    rw [this, hs] at hsi; cases hsi
  · exact decide_eq_true ((hm e).2 ⟨k, he, hs⟩)
set_option maxRecDepth 100000 in
set_option maxHeartbeats 32000000 in
theorem gossipMerges_calls (w : World) (x : Since w) (n : Int) (la : Option Addr) (l : List Ev) (lc : Nat) (m0 m1 m2 : Int) (hl : EvRow w la l) (hll : l.length ≤ 9223372036854775807) (hm0 : 0 ≤ m0 ∧ m0 < 18446744073709551616) (hm1 : 0 ≤ m1 ∧ m1 < 18446744073709551616) (hm2 : 0 ≤ m2 ∧ m2 < 18446744073709551616) :
    Calls Try.prog 9 #[.int .i64 n, .slice la l.length lc, .agg #[.int .u64 m0, .int .u64 m1, .int .u64 m2]] x.w fun o w' => o = .returned (.bool true) ∧ ∃ y : Since w, w' = y.w := by
  have HL := Lib.hid hl
  clear hl
  by_cases hbad : 40 < l.length ∨ n < 1 ∨ 12 < n
  · rcases (by omega : (40 < l.length) ∨ (l.length ≤ 40 ∧ n < 1) ∨ (l.length ≤ 40 ∧ 1 ≤ n ∧ 12 < n)) with h | ⟨h, h'⟩ | ⟨h, h', h''⟩
    all_goals
      clear hbad
      go_enter Try.func9, Try.ntmps9
      go_upto_region 1 with fail
      have hb0_0 : ∀ y : Since (x.w.alloc (.cells #[.int .u64 m0, .int .u64 m1, .int .u64 m2] 58)), y.w.cell? ⟨x.w.heap.size, 0, none⟩ = some (.int .u64 m0) := fun y => Since.cell (by simp [go_sem]) (by first | (simp; done) | (simp; omega)) y
      have hb0_1 : ∀ y : Since (x.w.alloc (.cells #[.int .u64 m0, .int .u64 m1, .int .u64 m2] 58)), y.w.cell? ⟨x.w.heap.size, 1, none⟩ = some (.int .u64 m1) := fun y => Since.cell (by simp [go_sem]) (by first | (simp; done) | (simp; omega)) y
      have hb0_2 : ∀ y : Since (x.w.alloc (.cells #[.int .u64 m0, .int .u64 m1, .int .u64 m2] 58)), y.w.cell? ⟨x.w.heap.size, 2, none⟩ = some (.int .u64 m2) := fun y => Since.cell (by simp [go_sem]) (by first | (simp; done) | (simp; omega)) y
      have hf0 : ∀ (y : Since (x.w.alloc (.cells #[.int .u64 m0, .int .u64 m1, .int .u64 m2] 58))) (o : Nat), y.w.frozen? ⟨x.w.heap.size, o, none⟩ = false := fun y o => Since.free (by simp [go_sem]) (by first | (simp; done) | (simp; omega)) y
      have hWup : ∃ z : Since w, (x.w.alloc (.cells #[.int .u64 m0, .int .u64 m1, .int .u64 m2] 58)) = z.w := x.alloc _
      obtain ⟨y0, hy0⟩ := Since.refl (x.w.alloc (.cells #[.int .u64 m0, .int .u64 m1, .int .u64 m2] 58))
      have Hbx := Lib.hid (And.intro x.b.size (show x.w.heap.size + 1 = (x.w.alloc (.cells #[.int .u64 m0, .int .u64 m1, .int .u64 m2] 58)).heap.size from by simp))
      generalize hW : (x.w.alloc (.cells #[.int .u64 m0, .int .u64 m1, .int .u64 m2] 58)) = W at *
      clear hW
      generalize x.w.heap.size = bx at *
      have Hup := Lib.hid (Since.up hWup)
      rw [hy0]
      clear hy0
      clear hWup
      go_wp2_with (go_at_call 12; refine (awake_s W _).mono ?_; rintro _ _ ⟨rfl, y1, rfl, -⟩)
      go_ret
      exact ⟨rfl, Hup.out _⟩
  have hl40 : l.length ≤ 40 := by omega
  have hn1 : 1 ≤ n := by omega
  have hn12 : n ≤ 12 := by omega
  obtain ⟨N, rfl⟩ : ∃ N : Nat, n = N := ⟨n.toNat, by omega⟩
  have HI := Lib.hid (inv_addAll (N := N) l [] (inv_nil N))
  have hwc := fun (w : World) (x : Since w) (h : EvRow w la l) => world_calls w x N la l lc h (by omega)
  unfold WorldPost at hwc
  have Hwc := Lib.hid hwc
  generalize addAll N [] l = S at *
  clear hbad hll hwc
  have hS5 := HI.out.len
  go_enter Try.func9, Try.ntmps9
  go_upto_region 1 with fail
  have hb0_0 : ∀ y : Since (x.w.alloc (.cells #[.int .u64 m0, .int .u64 m1, .int .u64 m2] 58)), y.w.cell? ⟨x.w.heap.size, 0, none⟩ = some (.int .u64 m0) := fun y => Since.cell (by simp [go_sem]) (by first | (simp; done) | (simp; omega)) y
  have hb0_1 : ∀ y : Since (x.w.alloc (.cells #[.int .u64 m0, .int .u64 m1, .int .u64 m2] 58)), y.w.cell? ⟨x.w.heap.size, 1, none⟩ = some (.int .u64 m1) := fun y => Since.cell (by simp [go_sem]) (by first | (simp; done) | (simp; omega)) y
  have hb0_2 : ∀ y : Since (x.w.alloc (.cells #[.int .u64 m0, .int .u64 m1, .int .u64 m2] 58)), y.w.cell? ⟨x.w.heap.size, 2, none⟩ = some (.int .u64 m2) := fun y => Since.cell (by simp [go_sem]) (by first | (simp; done) | (simp; omega)) y
  have hf0 : ∀ (y : Since (x.w.alloc (.cells #[.int .u64 m0, .int .u64 m1, .int .u64 m2] 58))) (o : Nat), y.w.frozen? ⟨x.w.heap.size, o, none⟩ = false := fun y o => Since.free (by simp [go_sem]) (by first | (simp; done) | (simp; omega)) y
  have hWup : ∃ z : Since w, (x.w.alloc (.cells #[.int .u64 m0, .int .u64 m1, .int .u64 m2] 58)) = z.w := x.alloc _
  obtain ⟨y0, hy0⟩ := Since.refl (x.w.alloc (.cells #[.int .u64 m0, .int .u64 m1, .int .u64 m2] 58))
  have Hbx := Lib.hid (And.intro x.b.size (show x.w.heap.size + 1 = (x.w.alloc (.cells #[.int .u64 m0, .int .u64 m1, .int .u64 m2] 58)).heap.size from by simp))
  generalize hW : (x.w.alloc (.cells #[.int .u64 m0, .int .u64 m1, .int .u64 m2] 58)) = W at *
  clear hW
  generalize x.w.heap.size = bx at *
  have Hup := Lib.hid (Since.up hWup)
  rw [hy0]
  clear hy0
  replace HL := Lib.hid (HL.out.to hWup)
  clear hWup
  go_upto_region 4 with (go_at_call 18; refine (Hwc.out W _ HL.out).mono ?_; rintro _ _ ⟨wa, wc, yv, rfl, rfl, hrow, hwcap⟩; have HS := Lib.hid hrow; clear hrow)
  clear Hwc
  have Hup2 := Lib.hid (fun z : Since yv.w => show ∃ y : Since w, z.w = y.w by obtain ⟨a, e⟩ := yv.trans z; rw [e]; exact Hup.out a)
  replace hb0_0 : ∀ (y : Since yv.w), y.w.cell? ⟨bx, 0, none⟩ = some (.int .u64 m0) := fun y => by obtain ⟨z, e⟩ := yv.trans y; rw [e]; exact hb0_0 z
  replace hb0_1 : ∀ (y : Since yv.w), y.w.cell? ⟨bx, 1, none⟩ = some (.int .u64 m1) := fun y => by obtain ⟨z, e⟩ := yv.trans y; rw [e]; exact hb0_1 z
  replace hb0_2 : ∀ (y : Since yv.w), y.w.cell? ⟨bx, 2, none⟩ = some (.int .u64 m2) := fun y => by obtain ⟨z, e⟩ := yv.trans y; rw [e]; exact hb0_2 z
  replace hf0 : ∀ (y : Since yv.w) (o : Nat), y.w.frozen? ⟨bx, o, none⟩ = false := fun y o => by obtain ⟨z, e⟩ := yv.trans y; rw [e]; exact hf0 z o
  have k0 : ∀ w', IsSince yv.w w' → w'.cell? ⟨bx, 0, none⟩ = some (.int .u64 m0) := fun _ h => IsSince.cell hb0_0 h
  have k1 : ∀ w', IsSince yv.w w' → w'.cell? ⟨bx, 1, none⟩ = some (.int .u64 m1) := fun _ h => IsSince.cell hb0_1 h
  have k2 : ∀ w', IsSince yv.w w' → w'.cell? ⟨bx, 2, none⟩ = some (.int .u64 m2) := fun _ h => IsSince.cell hb0_2 h
  have hsome := some_held N wa S wc HS.out HI.out hn1 (by omega)
  have Hk0 := Lib.hid hb0_0
  clear hb0_0 hb0_1 hb0_2 hf0
  go_region_held3 (fun w' => IsSince yv.w w') (first | assumption | exact IsSince.drew' (IsSince.self _) | exact IsSince.of _) (first | (go_at_call 30; ((with_reducible refine (hsome _ (by assumption) m0 false hm0.1 hm0.2).mono ?_); rintro _ _ ⟨pa, bma, La, y1, rfl, rfl, hz, hb, hR, hS, hm⟩; (try replace HRa := Lib.hid (HRa.out.to hz)); (try replace HRb := Lib.hid (HRb.out.to hz)); (try replace HRc := Lib.hid (HRc.out.to hz)); (try replace HRab := Lib.hid (HRab.out.to hz)); (try replace HRba := Lib.hid (HRba.out.to hz)); (try replace HRcp := Lib.hid (HRcp.out.to hz)); (try replace HRaa := Lib.hid (HRaa.out.to hz)); (try replace HRbc := Lib.hid (HRbc.out.to hz)); (try replace HRx := Lib.hid (HRx.out.to hz)); (try replace HRy := Lib.hid (HRy.out.to hz)); (try replace Hg1 := Lib.hid (Hg1.out.to hz)); (try replace Hg2 := Lib.hid (Hg2.out.to hz)); have HRa := Lib.hid hR; have HSa := Lib.hid hS; have HMa := Lib.hid hm; clear hb hR hS hm)) | (go_at_call 30; ((with_reducible refine (hsome _ (by assumption) m1 true hm1.1 hm1.2).mono ?_); rintro _ _ ⟨pb, bmb, Lb, y2, rfl, rfl, hz, hb, hR, hS, hm⟩; (try replace HRa := Lib.hid (HRa.out.to hz)); (try replace HRb := Lib.hid (HRb.out.to hz)); (try replace HRc := Lib.hid (HRc.out.to hz)); (try replace HRab := Lib.hid (HRab.out.to hz)); (try replace HRba := Lib.hid (HRba.out.to hz)); (try replace HRcp := Lib.hid (HRcp.out.to hz)); (try replace HRaa := Lib.hid (HRaa.out.to hz)); (try replace HRbc := Lib.hid (HRbc.out.to hz)); (try replace HRx := Lib.hid (HRx.out.to hz)); (try replace HRy := Lib.hid (HRy.out.to hz)); (try replace Hg1 := Lib.hid (Hg1.out.to hz)); (try replace Hg2 := Lib.hid (Hg2.out.to hz)); have HRb := Lib.hid hR; have HSb := Lib.hid hS; have HMb := Lib.hid hm; clear hb hR hS hm)) | (go_at_call 30; ((with_reducible refine (hsome _ (by assumption) m2 false hm2.1 hm2.2).mono ?_); rintro _ _ ⟨pc, bmc, Lc, y3, rfl, rfl, hz, hb, hR, hS, hm⟩; (try replace HRa := Lib.hid (HRa.out.to hz)); (try replace HRb := Lib.hid (HRb.out.to hz)); (try replace HRc := Lib.hid (HRc.out.to hz)); (try replace HRab := Lib.hid (HRab.out.to hz)); (try replace HRba := Lib.hid (HRba.out.to hz)); (try replace HRcp := Lib.hid (HRcp.out.to hz)); (try replace HRaa := Lib.hid (HRaa.out.to hz)); (try replace HRbc := Lib.hid (HRbc.out.to hz)); (try replace HRx := Lib.hid (HRx.out.to hz)); (try replace HRy := Lib.hid (HRy.out.to hz)); (try replace Hg1 := Lib.hid (Hg1.out.to hz)); (try replace Hg2 := Lib.hid (Hg2.out.to hz)); have HRc := Lib.hid hR; have HSc := Lib.hid hS; have HMc := Lib.hid hm; clear hb hR hS hm)))
  clear hsome k0 k1 k2
  try clear hz
  try clear hz
  try clear hz
  go_upto_region 8 with (go_at_call 31; ((with_reducible refine (merged_s yv.w _ pa bma pb bmb N S La Lb HRa.out HRb.out HI.out HSa.out HSb.out).mono ?_); rintro _ _ ⟨pab, bmab, Lab, yab, rfl, rfl, hz, hR, hS, hm⟩; (try replace HRa := Lib.hid (HRa.out.to hz)); (try replace HRb := Lib.hid (HRb.out.to hz)); (try replace HRc := Lib.hid (HRc.out.to hz)); (try replace HRab := Lib.hid (HRab.out.to hz)); (try replace HRba := Lib.hid (HRba.out.to hz)); (try replace HRcp := Lib.hid (HRcp.out.to hz)); (try replace HRaa := Lib.hid (HRaa.out.to hz)); (try replace HRbc := Lib.hid (HRbc.out.to hz)); (try replace HRx := Lib.hid (HRx.out.to hz)); (try replace HRy := Lib.hid (HRy.out.to hz)); (try replace Hg1 := Lib.hid (Hg1.out.to hz)); (try replace Hg2 := Lib.hid (Hg2.out.to hz)); have HRab := Lib.hid hR; have HSab := Lib.hid hS; have HMab := Lib.hid hm; clear hz hR hS hm))
  go_upto_region 9 with (go_at_call 31; ((with_reducible refine (merged_s yv.w _ pb bmb pa bma N S Lb La HRb.out HRa.out HI.out HSb.out HSa.out).mono ?_); rintro _ _ ⟨pba, bmba, Lba, yba, rfl, rfl, hz, hR, hS, hm⟩; (try replace HRa := Lib.hid (HRa.out.to hz)); (try replace HRb := Lib.hid (HRb.out.to hz)); (try replace HRc := Lib.hid (HRc.out.to hz)); (try replace HRab := Lib.hid (HRab.out.to hz)); (try replace HRba := Lib.hid (HRba.out.to hz)); (try replace HRcp := Lib.hid (HRcp.out.to hz)); (try replace HRaa := Lib.hid (HRaa.out.to hz)); (try replace HRbc := Lib.hid (HRbc.out.to hz)); (try replace HRx := Lib.hid (HRx.out.to hz)); (try replace HRy := Lib.hid (HRy.out.to hz)); (try replace Hg1 := Lib.hid (Hg1.out.to hz)); (try replace Hg2 := Lib.hid (Hg2.out.to hz)); have HRba := Lib.hid hR; have HSba := Lib.hid hS; have HMba := Lib.hid hm; clear hz hR hS hm))
  go_upto_region 10 with (first | (go_at_call 26; ((with_reducible refine (copy_s yv.w _ pa bma N La HRa.out).mono ?_); rintro _ _ ⟨pcp, bmcp, ycp, rfl, rfl, hz, hb, hR⟩; (try replace HRa := Lib.hid (HRa.out.to hz)); (try replace HRb := Lib.hid (HRb.out.to hz)); (try replace HRc := Lib.hid (HRc.out.to hz)); (try replace HRab := Lib.hid (HRab.out.to hz)); (try replace HRba := Lib.hid (HRba.out.to hz)); (try replace HRcp := Lib.hid (HRcp.out.to hz)); (try replace HRaa := Lib.hid (HRaa.out.to hz)); (try replace HRbc := Lib.hid (HRbc.out.to hz)); (try replace HRx := Lib.hid (HRx.out.to hz)); (try replace HRy := Lib.hid (HRy.out.to hz)); (try replace Hg1 := Lib.hid (Hg1.out.to hz)); (try replace Hg2 := Lib.hid (Hg2.out.to hz)); have HRcp := Lib.hid hR; have HScp := Lib.hid HSa.out; clear hz hb hR)) | (go_at_call 31; ((with_reducible refine (merged_s yv.w _ pa bma pcp bmcp N S La La HRa.out HRcp.out HI.out HSa.out HScp.out).mono ?_); rintro _ _ ⟨paa, bmaa, Laa, yaa, rfl, rfl, hz, hR, hS, hm⟩; (try replace HRa := Lib.hid (HRa.out.to hz)); (try replace HRb := Lib.hid (HRb.out.to hz)); (try replace HRc := Lib.hid (HRc.out.to hz)); (try replace HRab := Lib.hid (HRab.out.to hz)); (try replace HRba := Lib.hid (HRba.out.to hz)); (try replace HRcp := Lib.hid (HRcp.out.to hz)); (try replace HRaa := Lib.hid (HRaa.out.to hz)); (try replace HRbc := Lib.hid (HRbc.out.to hz)); (try replace HRx := Lib.hid (HRx.out.to hz)); (try replace HRy := Lib.hid (HRy.out.to hz)); (try replace Hg1 := Lib.hid (Hg1.out.to hz)); (try replace Hg2 := Lib.hid (Hg2.out.to hz)); have HRaa := Lib.hid hR; have HSaa := Lib.hid hS; have HMaa := Lib.hid hm; clear hz hR hS hm)))
  go_upto_region 11 with (go_at_call 31; ((with_reducible refine (merged_s yv.w _ pb bmb pc bmc N S Lb Lc HRb.out HRc.out HI.out HSb.out HSc.out).mono ?_); rintro _ _ ⟨pbc, bmbc, Lbc, ybc, rfl, rfl, hz, hR, hS, hm⟩; (try replace HRa := Lib.hid (HRa.out.to hz)); (try replace HRb := Lib.hid (HRb.out.to hz)); (try replace HRc := Lib.hid (HRc.out.to hz)); (try replace HRab := Lib.hid (HRab.out.to hz)); (try replace HRba := Lib.hid (HRba.out.to hz)); (try replace HRcp := Lib.hid (HRcp.out.to hz)); (try replace HRaa := Lib.hid (HRaa.out.to hz)); (try replace HRbc := Lib.hid (HRbc.out.to hz)); (try replace HRx := Lib.hid (HRx.out.to hz)); (try replace HRy := Lib.hid (HRy.out.to hz)); (try replace Hg1 := Lib.hid (Hg1.out.to hz)); (try replace Hg2 := Lib.hid (Hg2.out.to hz)); have HRbc := Lib.hid hR; have HSbc := Lib.hid hS; have HMbc := Lib.hid hm; clear hz hR hS hm))
  have haa : ∀ e, e ∈ Laa ↔ e ∈ La := fun e => by rw [HMaa.out]; simp
  have hba : ∀ e, e ∈ Lba ↔ e ∈ Lab := fun e => by rw [HMba.out, HMab.out, or_comm]
  have Hsaa := Lib.hid (sortE_same HSaa.out HSa.out haa)
  have Hsba := Lib.hid (sortE_same HSba.out HSab.out hba)
  have hla : (sortE La).length ≤ 512 := by rw [sortE_length]; exact (sub_inv HI.out HSa.out).len
  have hlab : (sortE Lab).length ≤ 512 := by rw [sortE_length]; exact (sub_inv HI.out HSab.out).len
  clear haa hba
  go_upto_region 13 with (first | (go_at_call 19; ((with_reducible refine (eventsP_s yv.w _ pab bmab N Lab Lab HRab.out (sub_inv HI.out HSab.out) rfl).mono ?_); rintro _ _ ⟨ea, ec, y5, rfl, rfl, hz, hrow⟩; (try replace HRa := Lib.hid (HRa.out.to hz)); (try replace HRb := Lib.hid (HRb.out.to hz)); (try replace HRc := Lib.hid (HRc.out.to hz)); (try replace HRab := Lib.hid (HRab.out.to hz)); (try replace HRba := Lib.hid (HRba.out.to hz)); (try replace HRcp := Lib.hid (HRcp.out.to hz)); (try replace HRaa := Lib.hid (HRaa.out.to hz)); (try replace HRbc := Lib.hid (HRbc.out.to hz)); (try replace HRx := Lib.hid (HRx.out.to hz)); (try replace HRy := Lib.hid (HRy.out.to hz)); (try replace Hg1 := Lib.hid (Hg1.out.to hz)); (try replace Hg2 := Lib.hid (Hg2.out.to hz)); have Hg1 := Lib.hid hrow; clear hz hrow)) | (go_at_call 19; ((with_reducible refine (eventsP_s yv.w _ pba bmba N Lba Lab HRba.out (sub_inv HI.out HSba.out) Hsba.out).mono ?_); rintro _ _ ⟨fa, fc, y6, rfl, rfl, hz, hrow⟩; (try replace HRa := Lib.hid (HRa.out.to hz)); (try replace HRb := Lib.hid (HRb.out.to hz)); (try replace HRc := Lib.hid (HRc.out.to hz)); (try replace HRab := Lib.hid (HRab.out.to hz)); (try replace HRba := Lib.hid (HRba.out.to hz)); (try replace HRcp := Lib.hid (HRcp.out.to hz)); (try replace HRaa := Lib.hid (HRaa.out.to hz)); (try replace HRbc := Lib.hid (HRbc.out.to hz)); (try replace HRx := Lib.hid (HRx.out.to hz)); (try replace HRy := Lib.hid (HRy.out.to hz)); (try replace Hg1 := Lib.hid (Hg1.out.to hz)); (try replace Hg2 := Lib.hid (Hg2.out.to hz)); have Hg2 := Lib.hid hrow; clear hz hrow)) | (go_at_call 21; ((with_reducible refine (evcmp_s yv.w _ ea fa (sortE Lab) (sortE Lab) ec fc true (by omega) (by omega) Hg1.out Hg2.out (decide_eq_true rfl)).mono ?_); rintro _ _ ⟨rfl, y7, rfl, hz⟩; (try replace HRa := Lib.hid (HRa.out.to hz)); (try replace HRb := Lib.hid (HRb.out.to hz)); (try replace HRc := Lib.hid (HRc.out.to hz)); (try replace HRab := Lib.hid (HRab.out.to hz)); (try replace HRba := Lib.hid (HRba.out.to hz)); (try replace HRcp := Lib.hid (HRcp.out.to hz)); (try replace HRaa := Lib.hid (HRaa.out.to hz)); (try replace HRbc := Lib.hid (HRbc.out.to hz)); (try replace HRx := Lib.hid (HRx.out.to hz)); (try replace HRy := Lib.hid (HRy.out.to hz)); (try replace Hg1 := Lib.hid (Hg1.out.to hz)); (try replace Hg2 := Lib.hid (Hg2.out.to hz)); clear hz Hg1 Hg2)) | (go_at_call 19; ((with_reducible refine (eventsP_s yv.w _ paa bmaa N Laa La HRaa.out (sub_inv HI.out HSaa.out) Hsaa.out).mono ?_); rintro _ _ ⟨ea, ec, y5, rfl, rfl, hz, hrow⟩; (try replace HRa := Lib.hid (HRa.out.to hz)); (try replace HRb := Lib.hid (HRb.out.to hz)); (try replace HRc := Lib.hid (HRc.out.to hz)); (try replace HRab := Lib.hid (HRab.out.to hz)); (try replace HRba := Lib.hid (HRba.out.to hz)); (try replace HRcp := Lib.hid (HRcp.out.to hz)); (try replace HRaa := Lib.hid (HRaa.out.to hz)); (try replace HRbc := Lib.hid (HRbc.out.to hz)); (try replace HRx := Lib.hid (HRx.out.to hz)); (try replace HRy := Lib.hid (HRy.out.to hz)); (try replace Hg1 := Lib.hid (Hg1.out.to hz)); (try replace Hg2 := Lib.hid (Hg2.out.to hz)); have Hg1 := Lib.hid hrow; clear hz hrow)) | (go_at_call 19; ((with_reducible refine (eventsP_s yv.w _ pa bma N La La HRa.out (sub_inv HI.out HSa.out) rfl).mono ?_); rintro _ _ ⟨fa, fc, y6, rfl, rfl, hz, hrow⟩; (try replace HRa := Lib.hid (HRa.out.to hz)); (try replace HRb := Lib.hid (HRb.out.to hz)); (try replace HRc := Lib.hid (HRc.out.to hz)); (try replace HRab := Lib.hid (HRab.out.to hz)); (try replace HRba := Lib.hid (HRba.out.to hz)); (try replace HRcp := Lib.hid (HRcp.out.to hz)); (try replace HRaa := Lib.hid (HRaa.out.to hz)); (try replace HRbc := Lib.hid (HRbc.out.to hz)); (try replace HRx := Lib.hid (HRx.out.to hz)); (try replace HRy := Lib.hid (HRy.out.to hz)); (try replace Hg1 := Lib.hid (Hg1.out.to hz)); (try replace Hg2 := Lib.hid (Hg2.out.to hz)); have Hg2 := Lib.hid hrow; clear hz hrow)) | (go_at_call 21; ((with_reducible refine (evcmp_s yv.w _ ea fa (sortE La) (sortE La) ec fc true (by omega) (by omega) Hg1.out Hg2.out (decide_eq_true rfl)).mono ?_); rintro _ _ ⟨rfl, y7, rfl, hz⟩; (try replace HRa := Lib.hid (HRa.out.to hz)); (try replace HRb := Lib.hid (HRb.out.to hz)); (try replace HRc := Lib.hid (HRc.out.to hz)); (try replace HRab := Lib.hid (HRab.out.to hz)); (try replace HRba := Lib.hid (HRba.out.to hz)); (try replace HRcp := Lib.hid (HRcp.out.to hz)); (try replace HRaa := Lib.hid (HRaa.out.to hz)); (try replace HRbc := Lib.hid (HRbc.out.to hz)); (try replace HRx := Lib.hid (HRx.out.to hz)); (try replace HRy := Lib.hid (HRy.out.to hz)); (try replace Hg1 := Lib.hid (Hg1.out.to hz)); (try replace Hg2 := Lib.hid (Hg2.out.to hz)); clear hz Hg1 Hg2)))
  go_upto_region 14 with (go_at_call 31; ((with_reducible refine (merged_s yv.w _ pab bmab pc bmc N S Lab Lc HRab.out HRc.out HI.out HSab.out HSc.out).mono ?_); rintro _ _ ⟨px, bmx, Lx, yx, rfl, rfl, hz, hR, hS, hm⟩; (try replace HRa := Lib.hid (HRa.out.to hz)); (try replace HRb := Lib.hid (HRb.out.to hz)); (try replace HRc := Lib.hid (HRc.out.to hz)); (try replace HRab := Lib.hid (HRab.out.to hz)); (try replace HRba := Lib.hid (HRba.out.to hz)); (try replace HRcp := Lib.hid (HRcp.out.to hz)); (try replace HRaa := Lib.hid (HRaa.out.to hz)); (try replace HRbc := Lib.hid (HRbc.out.to hz)); (try replace HRx := Lib.hid (HRx.out.to hz)); (try replace HRy := Lib.hid (HRy.out.to hz)); (try replace Hg1 := Lib.hid (Hg1.out.to hz)); (try replace Hg2 := Lib.hid (Hg2.out.to hz)); have HRx := Lib.hid hR; have HSx := Lib.hid hS; have HMx := Lib.hid hm; clear hz hR hS hm))
  go_upto_region 15 with (go_at_call 31; ((with_reducible refine (merged_s yv.w _ pa bma pbc bmbc N S La Lbc HRa.out HRbc.out HI.out HSa.out HSbc.out).mono ?_); rintro _ _ ⟨py, bmy, Ly, yy, rfl, rfl, hz, hR, hS, hm⟩; (try replace HRa := Lib.hid (HRa.out.to hz)); (try replace HRb := Lib.hid (HRb.out.to hz)); (try replace HRc := Lib.hid (HRc.out.to hz)); (try replace HRab := Lib.hid (HRab.out.to hz)); (try replace HRba := Lib.hid (HRba.out.to hz)); (try replace HRcp := Lib.hid (HRcp.out.to hz)); (try replace HRaa := Lib.hid (HRaa.out.to hz)); (try replace HRbc := Lib.hid (HRbc.out.to hz)); (try replace HRx := Lib.hid (HRx.out.to hz)); (try replace HRy := Lib.hid (HRy.out.to hz)); (try replace Hg1 := Lib.hid (Hg1.out.to hz)); (try replace Hg2 := Lib.hid (Hg2.out.to hz)); have HRy := Lib.hid hR; have HSy := Lib.hid hS; have HMy := Lib.hid hm; clear hz hR hS hm))
  have hyx : ∀ e, e ∈ Ly ↔ e ∈ Lx := fun e => by rw [HMy.out, HMx.out, HMbc.out, HMab.out, or_assoc]
  have Hsyx := Lib.hid (sortE_same HSy.out HSx.out hyx)
  have hlx : (sortE Lx).length ≤ 512 := by rw [sortE_length]; exact (sub_inv HI.out HSx.out).len
  have hh1 : hor N La ≤ hor N Lx := hor_mono (sub_inv HI.out HSa.out) (sub_inv HI.out HSx.out) (fun e he => by rw [HMx.out, HMab.out]; exact .inl (.inl he))
  have hh2 : hor N Lab ≤ hor N Lx := hor_mono (sub_inv HI.out HSab.out) (sub_inv HI.out HSx.out) (fun e he => by rw [HMx.out]; exact .inl he)
  clear hyx
  go_upto_region 17 with (first | (go_at_call 19; ((with_reducible refine (eventsP_s yv.w _ px bmx N Lx Lx HRx.out (sub_inv HI.out HSx.out) rfl).mono ?_); rintro _ _ ⟨ea, ec, y5, rfl, rfl, hz, hrow⟩; (try replace HRa := Lib.hid (HRa.out.to hz)); (try replace HRb := Lib.hid (HRb.out.to hz)); (try replace HRc := Lib.hid (HRc.out.to hz)); (try replace HRab := Lib.hid (HRab.out.to hz)); (try replace HRba := Lib.hid (HRba.out.to hz)); (try replace HRcp := Lib.hid (HRcp.out.to hz)); (try replace HRaa := Lib.hid (HRaa.out.to hz)); (try replace HRbc := Lib.hid (HRbc.out.to hz)); (try replace HRx := Lib.hid (HRx.out.to hz)); (try replace HRy := Lib.hid (HRy.out.to hz)); (try replace Hg1 := Lib.hid (Hg1.out.to hz)); (try replace Hg2 := Lib.hid (Hg2.out.to hz)); have Hg1 := Lib.hid hrow; clear hz hrow)) | (go_at_call 19; ((with_reducible refine (eventsP_s yv.w _ py bmy N Ly Lx HRy.out (sub_inv HI.out HSy.out) Hsyx.out).mono ?_); rintro _ _ ⟨fa, fc, y6, rfl, rfl, hz, hrow⟩; (try replace HRa := Lib.hid (HRa.out.to hz)); (try replace HRb := Lib.hid (HRb.out.to hz)); (try replace HRc := Lib.hid (HRc.out.to hz)); (try replace HRab := Lib.hid (HRab.out.to hz)); (try replace HRba := Lib.hid (HRba.out.to hz)); (try replace HRcp := Lib.hid (HRcp.out.to hz)); (try replace HRaa := Lib.hid (HRaa.out.to hz)); (try replace HRbc := Lib.hid (HRbc.out.to hz)); (try replace HRx := Lib.hid (HRx.out.to hz)); (try replace HRy := Lib.hid (HRy.out.to hz)); (try replace Hg1 := Lib.hid (Hg1.out.to hz)); (try replace Hg2 := Lib.hid (Hg2.out.to hz)); have Hg2 := Lib.hid hrow; clear hz hrow)) | (go_at_call 21; ((with_reducible refine (evcmp_s yv.w _ ea fa (sortE Lx) (sortE Lx) ec fc true (by omega) (by omega) Hg1.out Hg2.out (decide_eq_true rfl)).mono ?_); rintro _ _ ⟨rfl, y7, rfl, hz⟩; (try replace HRa := Lib.hid (HRa.out.to hz)); (try replace HRb := Lib.hid (HRb.out.to hz)); (try replace HRc := Lib.hid (HRc.out.to hz)); (try replace HRab := Lib.hid (HRab.out.to hz)); (try replace HRba := Lib.hid (HRba.out.to hz)); (try replace HRcp := Lib.hid (HRcp.out.to hz)); (try replace HRaa := Lib.hid (HRaa.out.to hz)); (try replace HRbc := Lib.hid (HRbc.out.to hz)); (try replace HRx := Lib.hid (HRx.out.to hz)); (try replace HRy := Lib.hid (HRy.out.to hz)); (try replace Hg1 := Lib.hid (Hg1.out.to hz)); (try replace Hg2 := Lib.hid (Hg2.out.to hz)); clear hz Hg1 Hg2)) | (go_at_call 24; ((with_reducible refine (horizon_s yv.w _ px bmx N Lx HRx.out (sub_inv HI.out HSx.out) (by omega)).mono ?_); rintro _ _ ⟨rfl, y8, rfl, hz⟩; (try replace HRa := Lib.hid (HRa.out.to hz)); (try replace HRb := Lib.hid (HRb.out.to hz)); (try replace HRc := Lib.hid (HRc.out.to hz)); (try replace HRab := Lib.hid (HRab.out.to hz)); (try replace HRba := Lib.hid (HRba.out.to hz)); (try replace HRcp := Lib.hid (HRcp.out.to hz)); (try replace HRaa := Lib.hid (HRaa.out.to hz)); (try replace HRbc := Lib.hid (HRbc.out.to hz)); (try replace HRx := Lib.hid (HRx.out.to hz)); (try replace HRy := Lib.hid (HRy.out.to hz)); (try replace Hg1 := Lib.hid (Hg1.out.to hz)); (try replace Hg2 := Lib.hid (Hg2.out.to hz)); clear hz)) | (go_at_call 24; ((with_reducible refine (horizon_s yv.w _ pa bma N La HRa.out (sub_inv HI.out HSa.out) (by omega)).mono ?_); rintro _ _ ⟨rfl, y10, rfl, hz⟩; (try replace HRa := Lib.hid (HRa.out.to hz)); (try replace HRb := Lib.hid (HRb.out.to hz)); (try replace HRc := Lib.hid (HRc.out.to hz)); (try replace HRab := Lib.hid (HRab.out.to hz)); (try replace HRba := Lib.hid (HRba.out.to hz)); (try replace HRcp := Lib.hid (HRcp.out.to hz)); (try replace HRaa := Lib.hid (HRaa.out.to hz)); (try replace HRbc := Lib.hid (HRbc.out.to hz)); (try replace HRx := Lib.hid (HRx.out.to hz)); (try replace HRy := Lib.hid (HRy.out.to hz)); (try replace Hg1 := Lib.hid (Hg1.out.to hz)); (try replace Hg2 := Lib.hid (Hg2.out.to hz)); clear hz)) | (go_at_call 24; ((with_reducible refine (horizon_s yv.w _ pab bmab N Lab HRab.out (sub_inv HI.out HSab.out) (by omega)).mono ?_); rintro _ _ ⟨rfl, y9, rfl, hz⟩; (try replace HRa := Lib.hid (HRa.out.to hz)); (try replace HRb := Lib.hid (HRb.out.to hz)); (try replace HRc := Lib.hid (HRc.out.to hz)); (try replace HRab := Lib.hid (HRab.out.to hz)); (try replace HRba := Lib.hid (HRba.out.to hz)); (try replace HRcp := Lib.hid (HRcp.out.to hz)); (try replace HRaa := Lib.hid (HRaa.out.to hz)); (try replace HRbc := Lib.hid (HRbc.out.to hz)); (try replace HRx := Lib.hid (HRx.out.to hz)); (try replace HRy := Lib.hid (HRy.out.to hz)); (try replace Hg1 := Lib.hid (Hg1.out.to hz)); (try replace Hg2 := Lib.hid (Hg2.out.to hz)); clear hz)))
  clear HRb HRc HRab HRba HRcp HRaa HRbc HRx HRy Hsaa Hsba Hsyx hh1 hh2
  go_upto_region 18 with (go_at_call 19; ((with_reducible refine (eventsP_s yv.w _ pa bma N La La HRa.out (sub_inv HI.out HSa.out) rfl).mono ?_); rintro _ _ ⟨ea, ec, yhad, rfl, rfl, hz, hrow⟩; (try replace HRa := Lib.hid (HRa.out.to hz)); (try replace HRb := Lib.hid (HRb.out.to hz)); (try replace HRc := Lib.hid (HRc.out.to hz)); (try replace HRab := Lib.hid (HRab.out.to hz)); (try replace HRba := Lib.hid (HRba.out.to hz)); (try replace HRcp := Lib.hid (HRcp.out.to hz)); (try replace HRaa := Lib.hid (HRaa.out.to hz)); (try replace HRbc := Lib.hid (HRbc.out.to hz)); (try replace HRx := Lib.hid (HRx.out.to hz)); (try replace HRy := Lib.hid (HRy.out.to hz)); (try replace Hg1 := Lib.hid (Hg1.out.to hz)); (try replace Hg2 := Lib.hid (Hg2.out.to hz)); have Hg1 := Lib.hid hrow; clear hz hrow))
  have Hmem := Lib.hid (fun e => sortE_mem La e)
  have HSe := Lib.hid (Since.els HS.out yhad)
  have Hka := Lib.hid (fun (z : Since yhad.w) => show z.w.cell? ⟨bx, 0, none⟩ = some (.int .u64 m0) by obtain ⟨q, e⟩ := yhad.trans z; rw [e]; exact Hk0.out q)
  generalize sortE La = had at *
  have Hup3 := Lib.hid (fun z : Since yhad.w => show ∃ y : Since w, z.w = y.w by obtain ⟨a, e⟩ := yhad.trans z; rw [e]; exact Hup2.out a)
  have HHor := Lib.hid (fun (z : Since yhad.w) => horizon_calls yhad.w z pa bma N La HRa.out (sub_inv HI.out HSa.out) (by omega))
  obtain ⟨q0, hq0⟩ := Since.refl yhad.w
  rw [hq0]
  clear hq0
  clear HRa Hk0 Hup2
  go_wp2_with fail
  go_loopw [24] (fun i wr => ∃ (k : Nat) (z : Since yhad.w), k ≤ S.length ∧ i = .int .i64 k ∧ wr = z.w) (fun i _ => S.length - (intOf i).toNat)
  case atStart => exact ⟨0, _, by omega, rfl, rfl⟩
  case round =>
    obtain ⟨k, z, hk, rfl, rfl⟩ := hrel
    by_cases hlt : k < S.length
    · obtain ⟨e, he⟩ : ∃ e, S[k]? = some e := ⟨_, List.getElem?_eq_getElem hlt⟩
      have Hsel := Lib.hid (sel_iff HI.out.nodup HMa.out he)
      have Hle := Lib.hid (fun h => hor_le_new (n := N) rfl HI.out HSa.out (List.mem_of_getElem? he) h)
      obtain ⟨b1, off1, rfl, h1'⟩ := Els.ev HSe.out he
      have qa0 := h1'.c0
      have qa1 := h1'.c1
      have qa2 := h1'.c2
      have qa3 := h1'.c3
      have qa4 := h1'.c4
      have qa5 := h1'.c5
      have qa6 := h1'.c6
      have qa7 := h1'.c7
      have qa8 := h1'.c8
      have hk0 : (0 : Int) ≤ (k : Int) := by omega
      have hkl : (k : Int) < (S.length : Int) := by omega
      clear h1' he
      go_wp2_with fail
      go_loopw [25, 26] (fun t i wr => ∃ (m : Nat) (z : Since yhad.w), m ≤ had.length ∧ i = .int .i64 m ∧ t = .bool (decide (e ∈ had.take m)) ∧ wr = z.w) (fun _ i _ => had.length - (intOf i).toNat)
      case atStart => exact ⟨0, z, by omega, rfl, by simp, rfl⟩
      case round =>
        obtain ⟨m, z, hm, rfl, rfl, rfl⟩ := hrel
        by_cases hlm : m < had.length
        · obtain ⟨u, hu⟩ : ∃ u, had[m]? = some u := ⟨_, List.getElem?_eq_getElem hlm⟩
          have Hnext := Lib.hid (mem_take_next hu e)
          obtain ⟨b2, off2, rfl, h2'⟩ := Els.ev Hg1.out hu
          have pa0 := h2'.c0
          have pa1 := h2'.c1
          have pa2 := h2'.c2
          have pa3 := h2'.c3
          have pa4 := h2'.c4
          have pa5 := h2'.c5
          have pa6 := h2'.c6
          have pa7 := h2'.c7
          have pa8 := h2'.c8
          have hm0' : (0 : Int) ≤ (m : Int) := by omega
          have hml : (m : Int) < (had.length : Int) := by omega
          have heq := ev_equal u e
          simp only [Ev.ag] at heq
          have hgd := ev_guard
          clear h2' hu
          cases htb : decide (e ∈ had.take m) with
          | true =>
            have Htb := Lib.hid (of_decide_eq_true htb)
            have hnx : decide (e ∈ had.take (m + 1)) = true := decide_eq_true (Hnext.out.2 (.inl Htb.out))
            have Hnx := Lib.hid hnx
            clear htb heq hnx
            go_wp2_with fail
            refine wp_region_since (by kernel_rfl) (by kernel_rfl) ?_
            repeat (go_big_quiet_step (fail))
            refine wpQuiet_nil ?_
            rintro _ ⟨z2, rfl⟩
            go_wp2_with fail
            go_roundw
            case rel => exact ⟨m + 1, z2, by omega, by go_num, by rw [Hnx.out], rfl⟩
            case measure => simp [intOf] <;> omega
          | false =>
            have Htb := Lib.hid (of_decide_eq_false htb)
            clear htb
            by_cases hue : u = e
            · rw [decide_eq_true hue] at heq
              have hnx : decide (e ∈ had.take (m + 1)) = true := decide_eq_true (Hnext.out.2 (.inr hue.symm))
              have Hnx := Lib.hid hnx
              clear hue hnx
              go_wp2_with fail
              refine wp_region_since (by kernel_rfl) (by kernel_rfl) ?_
              repeat (go_big_quiet_step (fail))
              refine wpQuiet_nil ?_
              rintro _ ⟨z2, rfl⟩
              go_wp2_with fail
              go_roundw
              case rel => exact ⟨m + 1, z2, by omega, by go_num, by rw [Hnx.out], rfl⟩
              case measure => simp [intOf] <;> omega
            · rw [decide_eq_false hue] at heq
              have hnx : decide (e ∈ had.take (m + 1)) = false := decide_eq_false (fun h => by rcases Hnext.out.1 h with h | h; exact Htb.out h; exact hue h.symm)
              have Hnx := Lib.hid hnx
              clear hue hnx
              go_wp2_with fail
              refine wp_region_since (by kernel_rfl) (by kernel_rfl) ?_
              repeat (go_big_quiet_step (fail))
              refine wpQuiet_nil ?_
              rintro _ ⟨z2, rfl⟩
              go_wp2_with fail
              go_roundw
              case rel => exact ⟨m + 1, z2, by omega, by go_num, by rw [Hnx.out], rfl⟩
              case measure => simp [intOf] <;> omega
        · obtain rfl : m = had.length := by omega
          have hka := Hka.out
          have hde : decide (e ∈ had.take had.length) = decide (e ∈ La) := by rw [List.take_length]; simp [Hmem.out]
          rw [hde]
          clear hde
          cases htb : decide (e ∈ La) with
          | true =>
            have hs2 : ((m0 / 2 ^ (k % 64)).tmod 2 == 1) = true := by have := Hsel.out; rw [htb] at this; exact this.symm
            clear htb
            go_wp2_with fail
            refine wp_region_since (by kernel_rfl) (by kernel_rfl) ?_
            repeat (go_big_quiet_step ((go_at_call 24; exact HHor.out _)))
            refine wpQuiet_nil ?_
            rintro _ ⟨z2, rfl⟩
            go_wp2_with fail
            go_roundw
            case rel => exact ⟨k + 1, z2, by omega, by go_num, rfl⟩
            case measure => simp [intOf] <;> omega
          | false =>
            have hs2 : ((m0 / 2 ^ (k % 64)).tmod 2 == 1) = false := by have := Hsel.out; rw [htb] at this; exact this.symm
            have hge := Hle.out (of_decide_eq_false htb)
            have hnl : decide (e.a < hor N La) = false := decide_eq_false (by omega)
            clear htb
            go_wp2_with fail
            refine wp_region_since (by kernel_rfl) (by kernel_rfl) ?_
            repeat (go_big_quiet_step ((go_at_call 24; exact HHor.out _)))
            refine wpQuiet_nil ?_
            rintro _ ⟨z2, rfl⟩
            go_wp2_with fail
            go_roundw
            case rel => exact ⟨k + 1, z2, by omega, by go_num, rfl⟩
            case measure => simp [intOf] <;> omega
    · go_wp2_with (go_at_call 12; refine (awake_s yhad.w _).mono ?_; rintro _ _ ⟨rfl, y12, rfl, -⟩)
      go_ret
      exact ⟨rfl, Hup3.out _⟩
end Go.Proofs.Ytcpfogbjbinjcaa
