/- The contract of the statements' head: the document's examples hold. -/
import Derived.Test.YteeenihhehmmoaaDoorPutInt
import Derived.Test.YteeenihhehmmoaaDoorTakeInt
import Derived.Test.YteeenihhehmmoaaDoorTakeKeyText
import Derived.Test.YteeenihhehmmoaaDoorCrc
import Derived.Lib.SlBytesConst
import Derived.Lib.SmallJoins
set_option linter.unusedVariables false
set_option linter.unusedSimpArgs false
namespace Go.Proofs.YteeenihhehmmoaaDoor
open Go.RowKit

/-- the table of the sum, as it lies in memory -/
def Nib (w : World) : Prop := ∀ i, (h : i < 16) → w.cell? ⟨0, i, none⟩ = some (.int .u32 ((UsCrc.nib.getD i 0 : Nat) : Int))
theorem Nib.below {w w' : World} (h : Nib w) (hb : Below w.heap.size w w') : Nib w' := fun i hi => cells_below hb _ _ (h i hi)
theorem ex1 : intB 64 = [128, 1] := by
  rw [intB, show zig 64 = 128 from rfl, uv_big 128 (by decide), uv_small (128 / 128) (by decide)]; rfl
theorem ex2 : takeI [128, 1] 0 = (64, 2, true) := by rfl
theorem ex3 : takeKT [97, 0, 1] 0 = ([97], 3, true) := by rfl
theorem ex4 : UsCrc.crc [49, 50, 51, 52, 53, 54, 55, 56, 57] = 3421780262 := by decide +kernel

set_option maxHeartbeats 2000000 in
theorem shown_any (w : World) (hn : Nib w) : Calls Tryd.prog 10 #[] w (Ends (.bool true) w.heap.size w) := by
  have hp := putInt_any (.slice none 0 0) [] 64 w (IsB.nil w) (by simp) (by decide) (by decide)
  rw [List.nil_append, ex1] at hp
  go_enter Tryd.func10, Tryd.ntmps10
  go_wp2_with fail
  refine hp.mono ?_
  rintro e w1 ⟨u, rfl, hm1, hb1⟩
  clear hp
  have ht := takeInt_any u [128, 1] 0 w1 hm1.isB (by simp) (by decide) (by decide)
  rw [ex2] at ht
  have hcv := fun (w : World) (C : Array Value) (n c : Nat) => Lib.run_convert_bytes_const (P := Tryd.prog) w 24 5 C n c Tryd.underlying24 Tryd.underlying5
  go_wp2_with fail
  refine ht.mono ?_
  rintro e w2 ⟨rfl, rfl⟩
  unfold three
  have hk := takeKeyText_any (.slice (some ⟨w1.heap.size, 0, none⟩) 3 3) [97, 0, 1] 0 (w1.alloc (.cells (bv [97, 0, 1]).toArray 5 (3, 4))) (isB_row 5 (3, 4) [97, 0, 1] (by simp [maxLen])) (by simp) (by decide) (by decide)
  rw [ex3] at hk
  go_wp2_with fail
  refine hk.mono ?_
  rintro e w2 ⟨rfl, hb2⟩
  clear hk ht
  have hb12 : Below w1.heap.size w1 w2 := ((Below.refl _ _).alloc (Nat.le_refl _) _).trans (hb2.mono (by simp))
  have hm2 := hm1.below hb12
  have hs := run_str (P := Tryd.prog) hm2.isB 24 9 5 Tryd.underlying24 Tryd.underlying5 Tryd.underlying9
  have hw2 := hb1.trans (hb12.mono hb1.size)
  have hsz2 := hw2.size
  have hn2 := hn.below hw2
  unfold threeT
  clear hm1 hm2 hb1 hb2 hb12
  have hA1 : IsB (w2.alloc (.cells (bv [49, 50, 51, 52]).toArray 5 (4, 5))) (.slice (some ⟨w2.heap.size, 0, none⟩) 4 4) [49, 50, 51, 52] := isB_row 5 (4, 5) [49, 50, 51, 52] (by simp [maxLen])
  have hA2 : IsB ((w2.alloc (.cells (bv [49, 50, 51, 52]).toArray 5 (4, 5))).alloc (.cells (bv [53, 54, 55, 56, 57]).toArray 5 (5, 6))) (.slice (some ⟨w2.heap.size + 1, 0, none⟩) 5 5) [53, 54, 55, 56, 57] := by
    have h := isB_row (w := w2.alloc (.cells (bv [49, 50, 51, 52]).toArray 5 (4, 5))) 5 (5, 6) [53, 54, 55, 56, 57] (by simp [maxLen])
    simpa using h
  have hA3 := isBs_lit 24 [.slice (some ⟨w2.heap.size, 0, none⟩) 4 4, .slice (some ⟨w2.heap.size + 1, 0, none⟩) 5 5] [[49, 50, 51, 52], [53, 54, 55, 56, 57]] (by simp [maxLen]) (w := (w2.alloc (.cells (bv [49, 50, 51, 52]).toArray 5 (4, 5))).alloc (.cells (bv [53, 54, 55, 56, 57]).toArray 5 (5, 6))) (fun i hi => by
    match i, hi with
    | 0, _ => exact ⟨_, rfl, hA1.alloc _⟩
    | 1, _ => exact ⟨_, rfl, hA2⟩)
  have hcrc := crc_parts _ _ _ hA3 (hn2.below ((((Below.refl _ _).alloc (Nat.le_refl _) _).alloc (by simp) _).alloc (by simp; omega) _))
  rw [show UsCrc.crc [[49, 50, 51, 52], [53, 54, 55, 56, 57]].flatten = 3421780262 from ex4] at hcrc
  simp only [World.size_alloc] at hcrc
  have Hcrc := Lib.hid hcrc
  clear hcrc hA1 hA2 hA3
  have hcv2 := fun (C : Array Value) (n c : Nat) => Joins.run_convert_bytes_const_at (P := Tryd.prog) (w2.alloc (.cells #[.int .u8 49, .int .u8 50, .int .u8 51, .int .u8 52] 5 (4, 5))) 24 5 C n c (w2.heap.size + 1) (by simp) Tryd.underlying24 Tryd.underlying5
  go_wp2_with fail
  refine Hcrc.out.mono ?_
  rintro e w3 ⟨rfl, rfl⟩
  go_wp2_with fail
  go_ret
  exact ⟨rfl, ((hw2.alloc hsz2 _).alloc (by simp; omega) _).alloc (by simp; omega) _⟩
end Go.Proofs.YteeenihhehmmoaaDoor
