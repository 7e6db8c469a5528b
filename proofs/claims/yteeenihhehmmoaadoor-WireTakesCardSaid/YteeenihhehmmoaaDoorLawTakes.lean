/- The walk of WireTakes: it answers true. -/
import Derived.Test.YteeenihhehmmoaaDoorShown
import Derived.Test.YteeenihhehmmoaaDoorTakeTextRef
import Derived.Test.YteeenihhehmmoaaDoorTakeKeyInt
import Derived.Test.YteeenihhehmmoaaDoorTakeKeyTextRef
set_option linter.unusedVariables false
set_option linter.unusedSimpArgs false
namespace Go.Proofs.YteeenihhehmmoaaDoor
open Go.RowKit

set_option maxHeartbeats 4000000 in
theorem lawTakes_walk (v : Value) (l : List UInt8) (n most : Int) (w : World) (hv : IsB w v l) (hl : l.length ≤ 140737488351232) (h1 : -9223372036854775808 ≤ n) (h2 : n ≤ 9223372036854775807)
    (h3 : -9223372036854775808 ≤ most) (h4 : most ≤ 9223372036854775807) (hn : Nib w) :
    Calls Tryd.prog 4 #[v, .int .i64 n, .int .i64 most] w (Ends (.bool true) w.heap.size w) := by
  go_enter Tryd.func4, Tryd.ntmps4
  go_wp2_with fail
  refine (shown_any w hn).mono ?_
  rintro e w1 ⟨rfl, hb1⟩
  have hv1 := hv.below hb1
  have hsz1 := hb1.size
  clear hv hn
  go_wp2_with fail
  refine (takeInt_any v l n w1 hv1 (by omega) h1 h2).mono ?_
  rintro e w2 ⟨rfl, rfl⟩
  unfold three
  go_wp2_with fail
  refine (refTakeInt_any v l n w1 hv1 (by omega) h1 h2).mono ?_
  rintro e w2 ⟨rfl, hb2⟩
  have hv2 := hv1.below hb2
  have hb2' := hb1.trans (hb2.mono hsz1)
  have hsz2 := hb2'.size
  clear hv1 hb1 hb2 hsz1
  unfold three
  go_wp2_with fail
  refine (takeText_any v l n most w2 hv2 (by omega) h1 h2 h3 h4).mono ?_
  rintro e w3 ⟨rfl, rfl⟩
  unfold threeT
  go_wp2_with fail
  refine (refTakeText_any v l n most w2 hv2 (by omega) h1 h2 h3 h4).mono ?_
  rintro e w3 ⟨rfl, hb3⟩
  have hv3 := hv2.below hb3
  have hb3' := hb2'.trans (hb3.mono hsz2)
  have hsz3 := hb3'.size
  clear hv2 hb2' hb3 hsz2
  unfold threeT
  go_wp2_with fail
  refine (takeKeyInt_any v l n w3 hv3 (by omega) h1 h2).mono ?_
  rintro e w4 ⟨rfl, rfl⟩
  unfold three
  go_wp2_with fail
  refine (refTakeKeyInt_any v l n w3 hv3 (by omega) h1 h2).mono ?_
  rintro e w4 ⟨rfl, rfl⟩
  unfold three
  go_wp2_with fail
  refine (takeKeyText_any v l n w3 hv3 (by omega) h1 h2).mono ?_
  rintro e w4 ⟨rfl, hb4⟩
  have hv4 := hv3.below hb4
  have hb4' := hb3'.trans (hb4.mono hsz3)
  have hsz4 := hb4'.size
  clear hv3 hb3' hb4 hsz3
  unfold threeT
  go_wp2_with fail
  refine (refTakeKeyText_any v l n w4 hv4 (by omega) h1 h2).mono ?_
  rintro e w5 ⟨rfl, hb5⟩
  have hb5' := hb4'.trans (hb5.mono hsz4)
  clear hv4 hb4' hb5 hsz4
  unfold threeT
  generalize takeI l n = r1
  generalize takeT l n most = r2
  generalize takeKI l n = r3
  generalize takeKT l n = r4
  go_wp2_with fail
  go_goals
  go_ret
  exact ⟨rfl, hb5'⟩
end Go.Proofs.YteeenihhehmmoaaDoor
