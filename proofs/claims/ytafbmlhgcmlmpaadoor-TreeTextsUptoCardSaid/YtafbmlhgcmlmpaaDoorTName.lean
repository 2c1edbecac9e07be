/- The contract of name.Name: whether a text is a name, the keywords lying as the program's text lays them. -/
import Derived.Test.YtafbmlhgcmlmpaaDoorPTx0
import Derived.Deep.DeepMust
import Derived.Outline
import Derived.Laws.Rows
namespace Go.Proofs.YtafbmlhgcmlmpaaDoor.PT
open Go.RowKit Go.Proofs.YtafbmlhgcmlmpaaDoorW.PrintWords Go.Proofs.YtafbmlhgcmlmpaaDoorW.PrintLast Go.Proofs.YtafbmlhgcmlmpaaDoorW.PrintMore
def smallB (c : Int) : Bool := decide (97 ≤ c) && decide (c ≤ 122)
def restB (c : Int) : Bool := decide (c = 95) || (decide (48 ≤ c) && decide (c ≤ 57))
theorem small_any (c : Int) (w : World) : Calls Tryd.prog 114 #[.int .u8 c] w fun e w' => e = .returned (.bool (smallB c)) ∧ w = w' := by
  by_cases h : 97 ≤ c
  · have hs : smallB c = decide (c ≤ 122) := by simp [smallB, h]
    rw [hs]
    clear hs
    go_enter Tryd.func114, Tryd.ntmps114
    go_wp2
    go_ret
    exact ⟨rfl, rfl⟩
  · have hs : smallB c = false := by simp [smallB, h]
    rw [hs]
    clear hs
    go_enter Tryd.func114, Tryd.ntmps114
    go_wp2
    go_ret
    exact ⟨rfl, rfl⟩
theorem rest_any (c : Int) (w : World) : Calls Tryd.prog 140 #[.int .u8 c] w fun e w' => e = .returned (.bool (restB c)) ∧ w = w' := by
  by_cases h1 : c = 95
  · subst h1
    go_enter Tryd.func140, Tryd.ntmps140
    go_wp2
    go_ret
    exact ⟨rfl, rfl⟩
  · have hb : (c == 95) = false := beq_eq_false_iff_ne.2 h1
    by_cases h : 48 ≤ c
    · have hs : restB c = decide (c ≤ 57) := by simp [restB, h, h1]
      rw [hs]
      clear hs
      go_enter Tryd.func140, Tryd.ntmps140
      go_wp2
      go_ret
      exact ⟨rfl, rfl⟩
    · have hs : restB c = false := by simp [restB, h, h1]
      rw [hs]
      clear hs
      go_enter Tryd.func140, Tryd.ntmps140
      go_wp2
      go_ret
      exact ⟨rfl, rfl⟩
def okB (s : ByteArray) (i : Nat) : Bool := smallB (bt s i) || restB (bt s i)
def speltB (s : ByteArray) : Bool := decide (0 < s.size) && decide (s.size ≤ 20) && smallB (bt s 0) && (List.range s.size).all (okB s)
theorem bt_nat (s : ByteArray) (i : Nat) (h : i < s.size) : ((s[i]'h).toNat : Int) = bt s (i : Int) := by simp [bt, h]
theorem all_range_succ (p : Nat → Bool) (k : Nat) : (List.range (k + 1)).all p = ((List.range k).all p && p k) := by simp [List.range_succ]
theorem all_range_false {p : Nat → Bool} {k n : Nat} (hk : k < n) (h : p k = false) : (List.range n).all p = false := by
  rw [Bool.eq_false_iff]
  intro hc
  rw [List.all_eq_true] at hc
  have := hc k (List.mem_range.2 hk)
  rw [h] at this
  cases this
theorem speltB_none {s : ByteArray} (h : s.size = 0 ∨ 20 < s.size ∨ smallB (bt s 0) = false) : speltB s = false := by
  unfold speltB
  rcases h with h | h | h
  · simp [h]
  · have : ¬ s.size ≤ 20 := by omega
    simp [this]
  · simp [h]
theorem small_eq {c : Int} {b : Bool} (h : smallB c = b) (w : World) : Calls Tryd.prog 114 #[.int .u8 c] w fun e w' => e = .returned (.bool b) ∧ w = w' := by
  subst h
  exact small_any c w
theorem rest_eq {c : Int} {b : Bool} (h : restB c = b) (w : World) : Calls Tryd.prog 140 #[.int .u8 c] w fun e w' => e = .returned (.bool b) ∧ w = w' := by
  subst h
  exact rest_any c w
set_option maxHeartbeats 1000000 in
theorem spelt_any (s : ByteArray) (w : World) : Calls Tryd.prog 113 #[.string s, .func (.func 114) #[] #[]] w fun e w' => e = .returned (.bool (speltB s)) ∧ w = w' := by
  by_cases h0 : s.size = 0
  · have hb := speltB_none (.inl h0)
    rw [hb]
    clear hb
    have hz : ((s.size : Int) == 0) = true := by simp [h0]
    go_enter Tryd.func113, Tryd.ntmps113
    go_wp2
    go_ret
    exact ⟨rfl, rfl⟩
  · have hz : ((s.size : Int) == 0) = false := by simp [h0]
    by_cases h1 : 20 < s.size
    · have hb := speltB_none (.inr (.inl h1))
      rw [hb]
      clear hb
      go_enter Tryd.func113, Tryd.ntmps113
      go_wp2
      go_ret
      exact ⟨rfl, rfl⟩
    · have hp : 0 < s.size := by omega
      have hlt2 : decide ((20 : Int) < (s.size : Int)) = false := by simp; omega
      have e0 := bt_nat s 0 hp
      cases h2 : smallB (bt s 0) with
      | false =>
        have hb := speltB_none (.inr (.inr h2))
        rw [hb]
        have H2 := Aside0.mk h2
        clear h2 hb
        go_enter Tryd.func113, Tryd.ntmps113
        go_wp2_with (go_at_call 114; go_must (refine (small_eq H2.out _).mono ?_; rintro e w' ⟨rfl, rfl⟩))
        go_ret
        exact ⟨rfl, rfl⟩
      | true =>
        have hS : speltB s = (List.range s.size).all (okB s) := by
          have h3 : s.size ≤ 20 := by omega
          simp [speltB, hp, h3, h2]
        rw [hS]
        have H2 := Aside0.mk h2
        clear h2 hS
        go_enter Tryd.func113, Tryd.ntmps113
        go_wp2_with (go_at_call 114; go_must (refine (small_eq H2.out _).mono ?_; rintro e w' ⟨rfl, rfl⟩))
        clear e0
        go_loop [23] (fun i => ∃ k : Nat, k ≤ s.size ∧ i = .int .i64 k ∧ Aside0 ((List.range k).all (okB s) = true)) (fun i => s.size - (intOf i).toNat)
        case atStart => exact ⟨0, Nat.zero_le _, rfl, ⟨rfl⟩⟩
        case round =>
          obtain ⟨k, hk, rfl, HA⟩ := hrel
          by_cases hlt : k < s.size
          · have e1 := bt_nat s k hlt
            have hl64 : (k : Int) + 1 ≤ 9223372036854775807 := by omega
            cases h4 : smallB (bt s (k : Int)) with
            | true =>
              have H4 := Aside0.mk h4
              have HN : Aside0 ((List.range (k + 1)).all (okB s) = true) := ⟨by rw [all_range_succ, HA.out]; simp [okB, h4]⟩
              clear h4
              go_wp2_with (go_at_call 114; go_must (refine (small_eq H4.out _).mono ?_; rintro e w' ⟨rfl, rfl⟩))
              go_round
              case rel => exact ⟨k + 1, by omega, by go_num, HN⟩
              case measure => simp [intOf]; omega
            | false =>
              have H4 := Aside0.mk h4
              cases h5 : restB (bt s (k : Int)) with
              | true =>
                have H5 := Aside0.mk h5
                have HN : Aside0 ((List.range (k + 1)).all (okB s) = true) := ⟨by rw [all_range_succ, HA.out]; simp [okB, h5]⟩
                clear h4 h5
                go_wp2_with (first | (go_at_call 114; go_must (refine (small_eq H4.out _).mono ?_; rintro e w' ⟨rfl, rfl⟩)) | (go_at_call 140; go_must (refine (rest_eq H5.out _).mono ?_; rintro e w' ⟨rfl, rfl⟩)))
                go_round
                case rel => exact ⟨k + 1, by omega, by go_num, HN⟩
                case measure => simp [intOf]; omega
              | false =>
                have H5 := Aside0.mk h5
                have HN : Aside0 ((List.range s.size).all (okB s) = false) := ⟨all_range_false hlt (by simp [okB, h4, h5])⟩
                clear h4 h5
                go_wp2_with (first | (go_at_call 114; go_must (refine (small_eq H4.out _).mono ?_; rintro e w' ⟨rfl, rfl⟩)) | (go_at_call 140; go_must (refine (rest_eq H5.out _).mono ?_; rintro e w' ⟨rfl, rfl⟩)))
                go_ret
                exact ⟨by rw [HN.out]; rfl, rfl⟩
          · go_wp2
            go_ret
            have hk2 : k = s.size := by omega
            exact ⟨by rw [← hk2, HA.out]; rfl, rfl⟩
def eqB (a s : ByteArray) : Bool := a.toList == s.toList
def kwB (s : ByteArray) : Bool := eqB kwGrammar s || (eqB kwLook s || (eqB kwSync s || eqB kwToken s))
def kwAt (k : Nat) : ByteArray := if k = 0 then kwGrammar else if k = 1 then kwLook else if k = 2 then kwSync else kwToken
theorem kwB_true {s : ByteArray} {k : Nat} (hk : k < 4) (h : eqB (kwAt k) s = true) : kwB s = true := by
  have : k = 0 ∨ k = 1 ∨ k = 2 ∨ k = 3 := by omega
  unfold kwB
  rcases this with rfl | rfl | rfl | rfl <;> simp [kwAt] at h <;> simp [h]
theorem kwB_false {s : ByteArray} (h : ∀ j, j < 4 → eqB (kwAt j) s = false) : kwB s = false := by
  have h0 := h 0 (by omega)
  have h1 := h 1 (by omega)
  have h2 := h 2 (by omega)
  have h3 := h 3 (by omega)
  simp [kwAt] at h0 h1 h2 h3
  simp [kwB, h0, h1, h2, h3]
theorem kw_index0 : ∀ w, (Instr.index 196 (.agg #[.string kwGrammar, .string kwLook, .string kwSync, .string kwToken]) (.int .i64 0)).run Tryd.prog w = .ok (.string kwGrammar) w := fun _ => by kernel_rfl
theorem kw_index1 : ∀ w, (Instr.index 196 (.agg #[.string kwGrammar, .string kwLook, .string kwSync, .string kwToken]) (.int .i64 1)).run Tryd.prog w = .ok (.string kwLook) w := fun _ => by kernel_rfl
theorem kw_index2 : ∀ w, (Instr.index 196 (.agg #[.string kwGrammar, .string kwLook, .string kwSync, .string kwToken]) (.int .i64 2)).run Tryd.prog w = .ok (.string kwSync) w := fun _ => by kernel_rfl
theorem kw_index3 : ∀ w, (Instr.index 196 (.agg #[.string kwGrammar, .string kwLook, .string kwSync, .string kwToken]) (.int .i64 3)).run Tryd.prog w = .ok (.string kwToken) w := fun _ => by kernel_rfl
theorem kw_index (k : Nat) (hk : k < 4) (w : World) : (Instr.index 196 (.agg #[.string kwGrammar, .string kwLook, .string kwSync, .string kwToken]) (.int .i64 (k : Int))).run Tryd.prog w = .ok (.string (kwAt k)) w := by
  have : k = 0 ∨ k = 1 ∨ k = 2 ∨ k = 3 := by omega
  rcases this with rfl | rfl | rfl | rfl
  · exact kw_index0 w
  · exact kw_index1 w
  · exact kw_index2 w
  · exact kw_index3 w
set_option maxHeartbeats 1000000 in
theorem keyword_any (s : ByteArray) (w : World) (hG : GL w) : Calls Tryd.prog 115 #[.string s] w fun e w' => e = .returned (.bool (kwB s)) ∧ w = w' := by
  obtain ⟨t, fr, hb⟩ := hG.block
  have HB := Aside0.mk hb
  clear hb hG
  go_enter Tryd.func115, Tryd.ntmps115
  go_wp2_with (refine wpList_load_row rfl 196 _ rfl 0 rfl t _ fr _ HB.out Tryd.underlying196 rfl (by kernel_rfl) ?_)
  go_loop [6] (fun i => ∃ k : Nat, k ≤ 4 ∧ i = .int .i64 k ∧ Aside0 (∀ j, j < k → eqB (kwAt j) s = false)) (fun i => 4 - (intOf i).toNat)
  case atStart => exact ⟨0, by omega, rfl, ⟨fun j hj => absurd hj (by omega)⟩⟩
  case round =>
    obtain ⟨k, hk, rfl, HA⟩ := hrel
    by_cases hlt : k < 4
    · have ik := kw_index k hlt
      cases h : eqB (kwAt k) s with
      | true =>
        have hb : ((kwAt k).toList == s.toList) = true := h
        have HT := Aside0.mk (kwB_true hlt h)
        clear h
        go_wp2
        go_ret
        exact ⟨by rw [HT.out]; rfl, rfl⟩
      | false =>
        have hb : ((kwAt k).toList == s.toList) = false := h
        have HN : Aside0 (∀ j, j < k + 1 → eqB (kwAt j) s = false) := ⟨fun j hj => by
          rcases Nat.lt_or_ge j k with h1 | h1
          · exact HA.out j h1
          · obtain rfl : j = k := by omega
            exact h⟩
        clear h
        go_wp2
        go_round
        case rel => exact ⟨k + 1, by omega, by go_num, HN⟩
        case measure => simp [intOf]; omega
    · have HT := Aside0.mk (kwB_false (s := s) (fun j hj => HA.out j (by omega)))
      go_wp2
      go_ret
      exact ⟨by rw [HT.out]; rfl, rfl⟩
theorem spelt_eq {s : ByteArray} {b : Bool} (h : speltB s = b) (w : World) : Calls Tryd.prog 113 #[.string s, .func (.func 114) #[] #[]] w fun e w' => e = .returned (.bool b) ∧ w = w' := by
  subst h
  exact spelt_any s w
theorem keyword_eq {s : ByteArray} {b : Bool} (h : kwB s = b) (w : World) (hG : GL w) : Calls Tryd.prog 115 #[.string s] w fun e w' => e = .returned (.bool b) ∧ w = w' := by
  subst h
  exact keyword_any s w hG
def nameB (s : ByteArray) : Bool := speltB s && !kwB s
def name_Name.f (a0 : ByteArray) : Option Bool := some (nameB a0)
theorem name_Name.calls (a0 : ByteArray) (r : Bool) (w : World) (hG : GL w) (h : name_Name.f a0 = some r) :
    Calls Tryd.prog 88 #[.string a0] w fun e w' => e = .returned (.bool r) ∧ Below w.heap.size w w' := by
  obtain rfl := Option.some.inj h
  clear h
  cases h1 : speltB a0 with
  | false =>
    have hn : nameB a0 = false := by simp [nameB, h1]
    rw [hn]
    have H1 := Aside0.mk h1
    clear h1 hn
    go_enter Tryd.func88, Tryd.ntmps88
    go_wp2_with (go_at_call 113; go_must (refine (spelt_eq H1.out _).mono ?_; rintro e w' ⟨rfl, rfl⟩))
    go_ret
    exact ⟨rfl, Below.refl _ _⟩
  | true =>
    have hn : nameB a0 = !kwB a0 := by simp [nameB, h1]
    rw [hn]
    have H1 := Aside0.mk h1
    clear h1 hn
    generalize hk : kwB a0 = b
    have HK := Aside0.mk hk
    clear hk
    cases b
    all_goals
      go_enter Tryd.func88, Tryd.ntmps88
      go_wp2_with (first | (go_at_call 113; go_must (refine (spelt_eq H1.out _).mono ?_; rintro e w' ⟨rfl, rfl⟩)) | (go_at_call 115; go_must (refine (keyword_eq HK.out _ hG).mono ?_; rintro e w' ⟨rfl, rfl⟩)))
      go_ret
      exact ⟨rfl, Below.refl _ _⟩
end Go.Proofs.YtafbmlhgcmlmpaaDoor.PT
