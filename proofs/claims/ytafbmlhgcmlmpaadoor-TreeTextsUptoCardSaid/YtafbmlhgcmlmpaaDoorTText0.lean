/- strings.Builder as the field of a struct: copyCheck, WriteString, String at such a builder. -/
import Derived.Shelf.Strings.BuilderK
import Derived.Lib.OthersKept
import Derived.Lib.OwnKind
import Derived.OneCell
import Derived.Maps.AppendAt
import Derived.RangeFuncLeaves
import Derived.Test.YtafbmlhgcmlmpaaDoorTMay
namespace Go.Proofs.YtafbmlhgcmlmpaaDoor.PT
open Go.RowKit Go.Shelf Go.Proofs.YtafbmlhgcmlmpaaDoorW.PrintWords Go.Proofs.YtafbmlhgcmlmpaaDoorW.PrintLast Go.Proofs.YtafbmlhgcmlmpaaDoorW.PrintMore
set_option linter.unusedVariables false
set_option linter.unusedSimpArgs false
theorem u89 : Tryd.prog.underlying 89 = some (.pointer 92) := by kernel_rfl
theorem u168 : Tryd.prog.underlying 168 = some .unsafePointer := by kernel_rfl
theorem u90 : Tryd.prog.underlying 90 = some (.slice 5) := by kernel_rfl
theorem mixedT : Tryd.prog.follows .mixedOrders = true := by kernel_rfl
theorem u9' : Tryd.prog.underlying 9 = some .string := by kernel_rfl
theorem u135 : Tryd.prog.underlying 135 = some (.pointer 5) := by kernel_rfl
theorem i92 : (Tryd.prog.info? 92).map (·.size) = some 2 := by kernel_rfl
theorem lies94 : liesAt Tryd.prog Tryd.prog.depth 94 (5 / Tryd.prog.cellsOf 94) 3 92 1 = true := by kernel_rfl
def PAt (B g : Nat) (a b c p : Value) (bs : List Value) (w : World) : Prop :=
  B ≤ g ∧ ∃ v, w.heap[g]? = some (.cells #[a, b, c, p, v] 94 (0, 0)) ∧ w.ownsRow B 5 1 v bs.length bs ∧ v.ownBlock ≠ some g
set_option maxHeartbeats 1000000 in
set_option maxRecDepth 100000 in
theorem copy_used (g : Nat) (w : World) (h0 : w.cell? ⟨g, 3, none⟩ = some (.pointer (some ⟨g, 3, none⟩))) :
    Calls Tryd.prog 82 #[.pointer (some ⟨g, 3, none⟩)] w fun e w' => e = .returned (.tuple #[]) ∧ w' = w := by
  obtain ⟨j, hj, _⟩ := Option.map_eq_some_iff.1 i92
  have hu92 := Tryd.underlying92
  have mixed := mixedT
  go_enter Tryd.func82, Tryd.ntmps82
  go_wp2
  rw [Lib.run_neq_ptr_same w _ u89 hj]
  go_wp2
  go_end0
  exact ⟨rfl, rfl⟩
set_option maxHeartbeats 1000000 in
set_option maxRecDepth 100000 in
theorem copy_fresh (g : Nat) (w : World) (h0 : w.cell? ⟨g, 3, none⟩ = some (.pointer none)) (hsh : w.shape? g = some (94, 5)) (hfz : w.frozen? ⟨g, 3, none⟩ = false) :
    Calls Tryd.prog 82 #[.pointer (some ⟨g, 3, none⟩)] w fun e w' => e = .returned (.tuple #[]) ∧ w' = w.setCell ⟨g, 3, none⟩ (.pointer (some ⟨g, 3, none⟩)) := by
  obtain ⟨j, hj, hjs⟩ := Option.map_eq_some_iff.1 i92
  have hu92 := Tryd.underlying92
  have mixed := mixedT
  go_enter Tryd.func82, Tryd.ntmps82
  go_wp2
  rw [Lib.run_to_unsafe w ⟨g, 3, none⟩ u89 u168 hj (by rw [hjs]; decide) hsh (by show 3 < 5; decide)]
  simp only [Result.andThen]
  rw [Oper.upon_value]
  go_wp2
  rw [run_callFunc_extern Tryd.func106 (by kernel_rfl) (by kernel_rfl) (by kernel_rfl) (e := Extern.AbiNoEscape.same) (by kernel_rfl)]
  rw [Lib.run_noEscape]
  simp only [Result.andThen]
  rw [Oper.upon_value]
  go_wp2
  rw [Lib.run_from_unsafe w ⟨g, 3, none⟩ u168 u89 hj hsh lies94]
  simp only [Result.andThen]
  rw [Oper.upon_value]
  go_wp2
  go_end0
  exact ⟨rfl, rfl⟩
theorem copy_any (B g : Nat) (a b c p : Value) (bs : List Value) (w : World) (hp : p = .pointer none ∨ p = .pointer (some ⟨g, 3, none⟩)) (h : PAt B g a b c p bs w) :
    Calls Tryd.prog 82 #[.pointer (some ⟨g, 3, none⟩)] w fun e w' => e = .returned (.tuple #[]) ∧ PAt B g a b c (.pointer (some ⟨g, 3, none⟩)) bs w' ∧ Below B w w' ∧ Lib.OthersKept 5 (some g) w w' := by
  obtain ⟨hB, v, hbk, hown, hne⟩ := h
  rcases hp with rfl | rfl
  · refine (copy_fresh g w (by rw [Lib.cell_of_heap hbk]; rfl) (by simp [World.shape?, hbk]) (Lib.frozen_of_heap hbk 3)).mono ?_
    rintro e w' ⟨rfl, rfl⟩
    refine ⟨rfl, ⟨hB, v, by simpa using blk_set hbk 3 (.pointer (some ⟨g, 3, none⟩)), ?_, hne⟩, (Below.refl B w).setCell (p := ⟨g, 3, none⟩) hB _, (Lib.OthersKept.refl _ _ w).setCell ⟨g, 3, none⟩ rfl _⟩
    exact ownsRow_setCell_other hown (a := ⟨g, 3, none⟩) hne _
  · refine (copy_used g w (by rw [Lib.cell_of_heap hbk]; rfl)).mono ?_
    rintro e w' ⟨rfl, rfl⟩
    exact ⟨rfl, ⟨hB, v, hbk, hown, hne⟩, Below.refl B _, Lib.OthersKept.refl _ _ _⟩
set_option maxHeartbeats 2000000 in
set_option maxRecDepth 100000 in
theorem write_any (B g : Nat) (a b c p : Value) (bs : List Value) (s : ByteArray) (w : World) (hp : p = .pointer none ∨ p = .pointer (some ⟨g, 3, none⟩)) (h : PAt B g a b c p bs w) (hlen : bs.length + s.size ≤ 140737488355328) (hBw : B ≤ w.heap.size) :
    Calls Tryd.prog 57 #[.pointer (some ⟨g, 3, none⟩), .string s] w fun e w' => e = .returned (.tuple #[.int .i64 s.size, .nilIface]) ∧ PAt B g a b c (.pointer (some ⟨g, 3, none⟩)) (bs ++ Lib.strCells s) w' ∧ Below B w w' ∧ Lib.OthersKept 5 (some g) w w' := by
  obtain ⟨i0, hi, hz0, hz1, hz2⟩ := info_parts info5
  have hu92 := Tryd.underlying92
  have mixed := mixedT
  go_enter Tryd.func57, Tryd.ntmps57
  go_wp2_with (go_at_call 82; go_must (refine (copy_any B g a b c p bs _ hp h).mono ?_))
  rintro e w1 ⟨rfl, h1, hb1, hk1⟩
  obtain ⟨hB, v, hbk, hown, hne⟩ := h1
  have c1 : w1.cell? ⟨g, 4, none⟩ = some v := by rw [Lib.cell_of_heap hbk]; rfl
  go_wp2_with (at_builtin; refine Lib.wpList_append_own_string _ rfl _ _ 90 9 rfl B 5 i0 u90 u9' hi hz0 hz1 hz2 _ _ _ rfl hown s rfl ?c3 ?c4 ?c5 ?_)
  case c3 => unfold maxLen; omega
  case c4 => omega
  case c5 => have := hb1.size; omega
  intro v' w2 hown' hgrow _
  have hlt : g < w1.heap.size := blk_lt hbk
  have hb2 : w2.heap[g]? = some (.cells #[a, b, c, .pointer (some ⟨g, 3, none⟩), v] 94 (0, 0)) := by
    rw [hgrow.block g hlt (fun e => hne e.symm)]
    exact hbk
  have d1 : w2.cell? ⟨g, 4, none⟩ = some v := by rw [Lib.cell_of_heap hb2]; rfl
  have f1 : w2.frozen? ⟨g, 4, none⟩ = false := Lib.frozen_of_heap hb2 4
  obtain ⟨ao, n', cap, rfl⟩ : ∃ ao n' cap, v' = .slice ao n' cap := by
    rcases hown'.2 with ⟨hv, _⟩ | ⟨g, cap, cur, hv, _⟩
    · exact ⟨_, _, _, hv⟩
    · exact ⟨_, _, _, hv⟩
  have hne' : (Value.slice ao n' cap).ownBlock ≠ some g := (own_ne hown' hb2 (by decide)).symm
  go_wp2
  go_ret2
  refine ⟨rfl, ⟨hB, _, by simpa using blk_set hb2 4 (.slice ao n' cap), ?_, hne'⟩, ?_, ?_⟩
  · have := ownsRow_setCell_other hown' (a := ⟨g, 4, none⟩) hne' (.slice ao n' cap)
    simpa [Lib.strCells_length] using this
  · exact (hb1.grown hgrow (by have := hb1.size; omega) (fun k hk => (hown.lt k hk).1)).setCell (p := ⟨g, 4, none⟩) hB _
  · exact (hk1.grown hgrow (Lib.ownsRow_kind hown)).setCell ⟨g, 4, none⟩ rfl _
set_option maxHeartbeats 1000000 in
set_option maxRecDepth 100000 in
theorem string_any (B g : Nat) (a b c p : Value) (l : List UInt8) (w : World) (h : PAt B g a b c p (Lib.byteCells l) w) (h0 : l ≠ []) :
    Calls Tryd.prog 50 #[.pointer (some ⟨g, 3, none⟩)] w fun e w' => e = .returned (.string ⟨l.toArray⟩) ∧ Below B w w' := by
  obtain ⟨hB, v, hbk, hown, hne⟩ := h
  have hl0 : l.length ≠ 0 := by simpa using h0
  rw [Lib.byteCells_length] at hown
  obtain ⟨r, cap, cur, rfl, hbg, hg, hnc, hcm, hcs, htake⟩ : ∃ r cap cur, v = .slice (some ⟨r, 0, none⟩) l.length cap ∧ B ≤ r ∧ w.heap[r]? = some (.cells cur 5 (0, 0)) ∧ l.length ≤ cap ∧ cap ≤ maxLen ∧ cur.size = cap * 1 ∧ cur.toList.take (l.length * 1) = Lib.byteCells l := by
    rcases hown.2 with ⟨_, hz⟩ | ⟨g, cap, cur, hv, r⟩
    · exact absurd hz hl0
    · exact ⟨g, cap, cur, hv, r⟩
  have c1 : w.drew.cell? ⟨g, 4, none⟩ = some (.slice (some ⟨r, 0, none⟩) l.length cap) := by
    have : w.drew.heap[g]? = some (.cells #[a, b, c, p, .slice (some ⟨r, 0, none⟩) l.length cap] 94 (0, 0)) := hbk
    rw [Lib.cell_of_heap this]; rfl
  have hSD : (Builtin.unsafeSliceData_ #[90] 135 #[.slice (some ⟨r, 0, none⟩) l.length cap]).run Tryd.prog w.drew = .ok (.pointer (some ⟨r, 0, none⟩)) w.drew :=
    Lib.run_unsafeSliceData_row _ _ _ _ _ _ (by omega)
  have hUS : (Builtin.unsafeString_ #[135, 3] 9 #[.pointer (some ⟨r, 0, none⟩), .int .i64 l.length]).run Tryd.prog w.drew = .ok (.string ⟨l.toArray⟩) (w.drew.freeze ⟨r, 0, none⟩ l.length) := by
    refine Lib.run_unsafeString_row w.drew 135 3 9 5 u135 (by kernel_rfl) r cur.size (by have hg' : w.drew.heap[r]? = some (.cells cur 5 (0, 0)) := hg; simp [World.shape?, hg']) l h0 (by omega) (by unfold maxLen at hcm; omega) ?_
    intro j x hx
    have := hown.cells (g := r) rfl j (.int .u8 x.toNat) (by simp [Lib.byteCells, hx])
    exact this
  have hu92 := Tryd.underlying92
  have mixed := mixedT
  go_enter Tryd.func50, Tryd.ntmps50
  go_wp2
  go_region_o
  all_goals (go_wp2; go_ret; exact ⟨rfl, Lib.below_freeze (Below.drew (Below.refl B w)) (p := ⟨r, 0, none⟩) hbg _⟩)
end Go.Proofs.YtafbmlhgcmlmpaaDoor.PT
