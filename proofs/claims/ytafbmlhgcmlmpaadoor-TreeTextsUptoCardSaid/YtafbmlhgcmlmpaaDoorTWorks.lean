/- The contract of the law's fixed whole: it works. -/
import Derived.Test.YtafbmlhgcmlmpaaDoorPTx1
import Derived.Test.YtafbmlhgcmlmpaaDoorPTx6
import Derived.Test.YtafbmlhgcmlmpaaDoorTText
import Derived.Test.YtafbmlhgcmlmpaaDoorTIter
namespace Go.Proofs.YtafbmlhgcmlmpaaDoor.PT
open Go.RowKit Go.Proofs.YtafbmlhgcmlmpaaDoorW.PrintWords Go.Proofs.YtafbmlhgcmlmpaaDoorW.PrintLast Go.Proofs.YtafbmlhgcmlmpaaDoorW.PrintMore
set_option linter.unusedVariables false
set_option linter.unusedSimpArgs false
def sampleL : List S33 := [⟨1, 0, 0, 3, ⟨#[]⟩, [1, 2, 3]⟩, ⟨2, 1, 0, 1, ⟨#[]⟩, []⟩, ⟨4, 2, 1, 1, ⟨#[]⟩, []⟩, ⟨3, 0, 1, 3, ⟨#[]⟩, []⟩]
theorem sample_f : gramaryelaw22_sample.f = some sampleL := rfl
theorem sample_may : tree_May.f sampleL = some 0 := by decide +kernel
def sampleT : ByteArray := ⟨#[40, 97, 32, 88, 32, 33, 89, 32, 60, 49, 46, 46, 51, 62, 41]⟩
theorem sample_text : tree_Text.f sampleL [⟨#[97]⟩] [⟨#[88]⟩, ⟨#[89]⟩] = some sampleT := by decide +kernel
theorem sample_places : tree_Places.f sampleL = some [0, 1, 2] := by decide +kernel
theorem sample_same : gramaryebase_SameInts.f 5 [0, 1, 2] [0, 1, 2] = some true := by decide +kernel
theorem add_at (g j : Nat) : (⟨g, 0, none⟩ : Addr).add j = ⟨g, j, none⟩ := by
  unfold Addr.add
  split
  · rename_i h
    have : j = 0 := by simpa using h
    rw [this]
  · simp
theorem lit_string {W : World} {g : Nat} (xs : List ByteArray) (hb : W.heap[g]? = some (.cells (xs.map Value.string).toArray 9 (0, 0))) (h : xs.length ≤ 100) : Kd.C Kd.string W (some ⟨g, 0, none⟩) xs.length xs := by
  refine Kd.C_of_reads (enc := Value.string) (d := ByteArray.empty) ⟨rfl, by omega, fun _ => ⟨_, rfl, fun j hj => ?_⟩⟩
  have := blk_cell hb j
  rw [add_at, this]
  simp [hj]
theorem lit_int {W : World} {g : Nat} (xs : List Int) (hb : W.heap[g]? = some (.cells (xs.map (Value.int .i64)).toArray 3 (0, 0))) (h : xs.length ≤ 100) : Kd.C (Kd.int .i64) W (some ⟨g, 0, none⟩) xs.length xs := by
  refine Kd.C_of_reads (enc := Value.int .i64) (d := 0) ⟨rfl, by omega, fun _ => ⟨_, rfl, fun j hj => ?_⟩⟩
  have := blk_cell hb j
  rw [add_at, this]
  simp [hj]
theorem sample_any (w : World) : Calls Tryd.prog 48 #[] w fun e w' => ∃ A c, e = .returned (.agg #[.slice A 4 c]) ∧ Kd.C k33 w' A sampleL.length sampleL ∧ sampleL.length ≤ c ∧ Below w.heap.size w w' := by
  refine (gramaryelaw22_sample.calls sampleL w sample_f).mono ?_
  rintro e w' ⟨v, rfl, hn, hb⟩
  obtain ⟨A, c, rfl⟩ := Kd.N_slice hn
  obtain ⟨_, h1, h2⟩ := Kd.N_reads' hn
  exact ⟨A, c, rfl, h2, h1, hb⟩
def gramaryelaw22_works.f : Option Bool := some true
set_option maxHeartbeats 4000000 in
set_option maxRecDepth 100000 in
theorem works_any (w : World) (hG : GL w) : Calls Tryd.prog 16 #[] w fun e w' => e = .returned (.bool true) ∧ Below w.heap.size w w' := by
  have HG := Aside0.mk hG
  clear hG
  go_enter Tryd.func16, Tryd.ntmps16
  go_wp2_with fail
  refine (sample_any _).mono ?_
  rintro e w1 ⟨A1, c1, rfl, hC1, hc1, hb1⟩
  have HC1 := Aside0.mk hC1
  have Hc1 := Aside0.mk hc1
  have HB1 := Aside0.mk hb1
  clear hC1 hc1 hb1
  go_wp2_with fail
  refine (tree_May.calls A1 c1 sampleL 0 _ HC1.out Hc1.out (GL_below HG.out HB1.out) sample_may).mono ?_
  rintro e w2 ⟨rfl, hb2⟩
  have HB2 := Aside0.mk (below_step HB1.out hb2)
  clear hb2
  go_wp2_with fail
  refine (sample_any _).mono ?_
  rintro e w3 ⟨A3, c3, rfl, hC3, hc3, hb3⟩
  have HC3 := Aside0.mk hC3
  have Hc3 := Aside0.mk hc3
  have HB3 := Aside0.mk (below_step HB2.out hb3)
  clear hC3 hc3 hb3
  have hT : (sampleT.toList == ([40, 97, 32, 88, 32, 33, 89, 32, 60, 49, 46, 46, 51, 62, 41] : List UInt8)) = true := by decide +kernel
  obtain ⟨W, hW⟩ : ∃ W, (w3.alloc (.cells #[.string ⟨#[97]⟩] 9)).alloc (.cells #[.string ⟨#[88]⟩, .string ⟨#[89]⟩] 9) = W := ⟨_, rfl⟩
  have HW : Aside0 (Below w3.heap.size w3 W) := ⟨by rw [← hW]; exact ((Below.refl _ w3).alloc (Nat.le_refl _) _).alloc (by simp) _⟩
  have HX1 : Aside0 (W.heap[w3.heap.size]? = some (.cells #[.string ⟨#[97]⟩] 9 (0, 0))) := ⟨by rw [← hW]; exact blk_alloc (heap_alloc_new w3 _) _⟩
  have HX2 : Aside0 (W.heap[w3.heap.size + 1]? = some (.cells #[.string ⟨#[88]⟩, .string ⟨#[89]⟩] 9 (0, 0))) := ⟨by
    have z := heap_alloc_new (w3.alloc (.cells #[.string ⟨#[97]⟩] 9)) (.cells #[.string ⟨#[88]⟩, .string ⟨#[89]⟩] 9)
    rw [World.size_alloc, hW] at z
    exact z⟩
  have HWW := Aside0.mk hW
  clear hW
  go_wp2_with fail
  rw [HWW.out]
  refine (tree_Text.calls A3 c3 sampleL (some ⟨w3.heap.size, 0, none⟩) 1 [⟨#[97]⟩] (some ⟨w3.heap.size + 1, 0, none⟩) 2 [⟨#[88]⟩, ⟨#[89]⟩] sampleT W (Kd.C_below HC3.out HW.out) Hc3.out (lit_string _ HX1.out (by simp)) (by simp) (lit_string _ HX2.out (by simp)) (by simp) (GL_below HG.out (below_step HB3.out HW.out)) sample_text).mono ?_
  rintro e w4 ⟨rfl, hb4⟩
  have HB4 := Aside0.mk (below_step (below_step HB3.out HW.out) hb4)
  clear hb4 HWW
  go_wp2_with fail
  refine (sample_any _).mono ?_
  rintro e w5 ⟨A5, c5, rfl, hC5, hc5, hb5⟩
  have HC5 := Aside0.mk hC5
  have Hc5 := Aside0.mk hc5
  have HB5 := Aside0.mk (below_step HB4.out hb5)
  clear hC5 hc5 hb5
  go_wp2_with fail
  refine (tree_Places.calls A5 c5 sampleL [0, 1, 2] _ HC5.out Hc5.out (GL_below HG.out HB5.out) sample_places).mono ?_
  rintro e w6 ⟨v6, rfl, hr6, hb6⟩
  obtain ⟨A6, c6, rfl⟩ := Kd.R_slice hr6
  obtain ⟨_, hc6, hC6⟩ := Kd.R_reads' hr6
  have HC6 := Aside0.mk hC6
  have Hc6 := Aside0.mk hc6
  have HB6 := Aside0.mk (below_step HB5.out hb6)
  clear hC6 hc6 hb6 hr6
  obtain ⟨V, hV⟩ : ∃ V, w6.alloc (.cells #[.int .i64 0, .int .i64 1, .int .i64 2] 3) = V := ⟨_, rfl⟩
  have HV : Aside0 (Below w6.heap.size w6 V) := ⟨by rw [← hV]; exact (Below.refl _ w6).alloc (Nat.le_refl _) _⟩
  have HY : Aside0 (V.heap[w6.heap.size]? = some (.cells #[.int .i64 0, .int .i64 1, .int .i64 2] 3 (0, 0))) := ⟨by rw [← hV]; exact heap_alloc_new w6 _⟩
  have HVV := Aside0.mk hV
  clear hV
  go_wp2_with fail
  rw [HVV.out]
  refine (gramaryebase_SameInts.calls 5 A6 c6 [0, 1, 2] (some ⟨w6.heap.size, 0, none⟩) 3 [0, 1, 2] true V (Kd.C_below HC6.out HV.out) Hc6.out (lit_int _ HY.out (by simp)) (by simp) sample_same).mono ?_
  rintro e w7 ⟨rfl, hd7⟩
  have HB7 := Aside0.mk (below_step (below_step HB6.out HV.out) hd7.below)
  clear hd7 HVV
  go_wp2
  go_ret
  exact ⟨rfl, HB7.out⟩
theorem gramaryelaw22_works.calls (r : Bool) (w : World) (hG : GL w) (h : gramaryelaw22_works.f = some r) : Calls Tryd.prog 16 #[] w fun e w' => e = .returned (.bool r) ∧ Below w.heap.size w w' := by
  obtain rfl := Option.some.inj h
  exact works_any w hG
end Go.Proofs.YtafbmlhgcmlmpaaDoor.PT
