/- The document's disk: read, Read. -/
import Derived.Test.YtncoclbmnhbgbaaRefSmall
import Derived.Test.YtncoclbmnhbgbaaOf
set_option linter.unusedVariables false
set_option linter.unusedSimpArgs false
namespace Go.Proofs.Ytncoclbmnhbgbaa
open Go.RowKit

theorem layAll_length {n : Nat} : ∀ (L : List (Nat × List UInt8)) {s : List UInt8} (hs : s.length = n * 128), (∀ x ∈ L, x.1 < n ∧ x.2.length = 128) → (layAll s L).length = n * 128
  | [], s, hs, _ => hs
  | x :: L, s, hs, h => by
    have hx := h x (by simp)
    exact layAll_length L (putS_length hs hx.2 hx.1) fun y hy => h y (by simp [hy])
theorem lay_step {D : Dk} (hok : D.Ok) (j a : Nat) (hj : j < D.hung.length) (ha : a < D.n) :
    sec (layAll D.safe (D.hung.take (j + 1))) a = if D.hung[j].1 = a then D.hung[j].2 else sec (layAll D.safe (D.hung.take j)) a := by
  obtain ⟨h1, h2⟩ := hok.hung D.hung[j] (List.getElem_mem hj)
  have hl := layAll_length (D.hung.take j) hok.safe fun x hx => hok.hung x (List.mem_of_mem_take hx)
  rw [List.take_add_one, List.getElem?_eq_getElem hj, Option.toList_some, layAll_snoc]
  by_cases he : D.hung[j].1 = a
  · rw [if_pos he, he]
    exact sec_putS_same hl h2 ha
  · rw [if_neg he]
    exact sec_putS_other hl h2 h1 ha (fun e => he e.symm)

set_option maxHeartbeats 4000000 in
theorem refread_any (B : Nat) (w : World) (p : Nat) (D : Dk) (h : RefAt B w p D) (hok : D.Ok) (k : Nat) (hk : k < D.n) :
    Calls Try.prog 39 #[rptr p, .int .i64 (k : Int)] w fun e w' => ∃ v, e = .returned v ∧ Mine 5 w.heap.size w' v (sec (layAll D.safe D.hung) k) ∧ Below w.heap.size w w' := by
  obtain ⟨Z, hZ⟩ : ∃ Z, Z = sec (layAll D.safe D.hung) k := ⟨_, rfl⟩
  have hln : Z.length = 128 := by rw [hZ]; exact sec_length (layAll_length D.hung hok.safe hok.hung) hk
  rw [← hZ]
  have HZ := Lib.hid hZ
  clear hZ
  obtain ⟨aS, cS, aL, cL, hp, hS, hL⟩ := h.cells
  obtain ⟨_, _, e1, hnS, hmS, hS2⟩ := hS.shape
  simp only [Value.slice.injEq, true_and] at e1
  obtain ⟨rfl, rfl⟩ := e1
  obtain ⟨g, rfl, hgB, hcell⟩ := hS2 (by omega)
  obtain ⟨u0, c0, hm0⟩ := hcell k hk
  obtain ⟨_, _, e2, hnL, hmL, hL2⟩ := hL.shape
  simp only [Value.slice.injEq, true_and] at e2
  obtain ⟨rfl, rfl⟩ := e2
  have p0 : w.cell? ⟨p, 0, none⟩ = some (.slice (some ⟨g, 0, none⟩) D.n cS) := by rw [cell_of_row _ _ _ _ _ _ hp]; rfl
  have p1 : w.cell? ⟨p, 1, none⟩ = some (.slice aL D.hung.length cL) := by rw [cell_of_row _ _ _ _ _ _ hp]; rfl
  have hloose := hok.loose
  have hopsb := hok.ops
  have i0 : (0 : Int) ≤ (k : Int) := by omega
  have i1 : (k : Int) < (D.n : Int) := by omega
  have H0 := Lib.hid hm0
  clear hcell hS2 hS hL hm0
  go_enter Try.func39, Try.ntmps39
  go_wp2_with fail
  go_loop [5, 6, 14, 15, 16, 17, 18, 19, 20, 21, 22, 23, 24, 25, 26, 27, 28, 29, 30, 31, 32, 33, 34, 35, 36, 37, 38, 39, 40] (fun u i _ _ _ _ _ _ _ _ _ _ _ _ _ _ _ _ _ _ _ _ _ _ _ _ _ _ _ => ∃ j : Nat, j ≤ D.hung.length ∧ i = .int .i64 (j : Int) ∧ IsB w u (sec (layAll D.safe (D.hung.take j)) k)) (fun _ i _ _ _ _ _ _ _ _ _ _ _ _ _ _ _ _ _ _ _ _ _ _ _ _ _ _ _ => D.hung.length - (intOf i).toNat)
  case atStart => exact ⟨0, Nat.zero_le _, rfl, H0.out.isB⟩
  case round =>
    obtain ⟨j, hj, rfl, hu⟩ := hrel
    clear c0
    by_cases hjl : j < D.hung.length
    · have hdj : decide ((j : Int) < (D.hung.length : Int)) = true := by simpa using hjl
      obtain ⟨gL, rfl, hgL, hcL⟩ := hL2 (by omega)
      obtain ⟨uj, q0, q1, hmj⟩ := hcL j hjl
      have hstep := lay_step hok j k hjl hk
      have j0 : (0 : Int) ≤ (j : Int) := by omega
      have j1 : (j : Int) < (D.hung.length : Int) := by omega
      clear hcL hL2
      by_cases he : D.hung[j].1 = k
      · rw [if_pos he] at hstep
        have hbe : ((D.hung[j].1 : Int) == (k : Int)) = true := by simp [he]
        have hu2 : IsB w uj (sec (layAll D.safe (D.hung.take (j + 1))) k) := by rw [hstep]; exact hmj.isB
        have HU := Lib.hid hu2
        clear hu2 hmj hstep he hu
        generalize D.hung[j].1 = yy at *
        go_wp2_with fail
        go_round
        case rel => exact ⟨j + 1, by omega, by simp, HU.out⟩
        case measure => simp [intOf]; omega
      · rw [if_neg he] at hstep
        have hbe : ((D.hung[j].1 : Int) == (k : Int)) = false := by simp; omega
        rw [← hstep] at hu
        have HU := Lib.hid hu
        clear hmj hstep he hu
        generalize D.hung[j].1 = yy at *
        go_wp2_with fail
        go_round
        case rel => exact ⟨j + 1, by omega, by simp, HU.out⟩
        case measure => simp [intOf]; omega
    · obtain rfl : j = D.hung.length := by omega
      have hdj : decide ((D.hung.length : Int) < (D.hung.length : Int)) = false := by simp
      rw [List.take_length, ← HZ.out] at hu
      clear hL2
      go_wp2_with (at_builtin; refine wpList_bytes rfl (.const (.slice none 0 0)) (.tmp 41) 30 rfl w.heap.size 5 info_byte Try.underlying30 _ [] rfl (Mine.nil _ _ _) _ Z rfl hu (by simp; omega) (Nat.le_refl _) ?_; intro v2 w2 hm2 _ hb2 _ _)
      rw [List.nil_append] at hm2
      go_ret
      exact ⟨_, rfl, hm2, hb2⟩
/-- Read: what the document answers -/
theorem refRead_any (B : Nat) (w : World) (p : Nat) (D : Dk) (h : RefAt B w p D) (hok : D.Ok) (hnow : D.now = layAll D.safe D.hung) (at_ : Int) (h1 : -9223372036854775808 ≤ at_) (h2 : at_ ≤ 9223372036854775807) :
    Calls Try.prog 32 #[rptr p, .int .i64 at_] w fun e w' => ∃ v, e = .returned (.tuple #[v, .int .i64 (D.read at_).2]) ∧ Mine 5 w.heap.size w' v (D.read at_).1 ∧ Below w.heap.size w w' := by
  obtain ⟨aS, cS, aL, cL, hp, hS, hL⟩ := h.cells
  have p0 : w.cell? ⟨p, 0, none⟩ = some (.slice aS D.n cS) := by rw [cell_of_row _ _ _ _ _ _ hp]; rfl
  have p4 : w.cell? ⟨p, 4, none⟩ = some (.bool D.off) := by rw [cell_of_row _ _ _ _ _ _ hp]; rfl
  have hnm := hok.nm
  cases ho : D.off with
  | true =>
    have e1 : D.read at_ = ([], 43) := by simp [Dk.read, ho]
    rw [e1]
    rw [ho] at p4
    clear ho e1 hp hS hL
    go_enter Try.func32, Try.ntmps32
    go_wp2_with fail
    go_ret2
    exact ⟨_, rfl, Mine.nil _ _ _, Below.refl _ _⟩
  | false =>
    rw [ho] at p4
    by_cases h0 : at_ < 0
    · have d0 : decide (at_ < 0) = true := by simpa using h0
      have e1 : D.read at_ = ([], 41) := by simp only [Dk.read, ho]; simp; omega
      rw [e1]
      clear ho e1 hp hS hL
      go_enter Try.func32, Try.ntmps32
      go_wp2_with fail
      go_ret2
      exact ⟨_, rfl, Mine.nil _ _ _, Below.refl _ _⟩
    · have d0 : decide (at_ < 0) = false := by simpa using h0
      by_cases hn : (D.n : Int) ≤ at_
      · have dn : decide ((D.n : Int) ≤ at_) = true := by simpa using hn
        have e1 : D.read at_ = ([], 41) := by simp only [Dk.read, ho]; simp; omega
        rw [e1]
        clear ho e1 hp hS hL
        go_enter Try.func32, Try.ntmps32
        go_wp2_with fail
        go_ret2
        exact ⟨_, rfl, Mine.nil _ _ _, Below.refl _ _⟩
      · have dn : decide ((D.n : Int) ≤ at_) = false := by simpa using hn
        obtain ⟨k, rfl⟩ := Int.eq_ofNat_of_zero_le (show 0 ≤ at_ by omega)
        have hk : k < D.n := by omega
        have e1 : D.read k = (sec (layAll D.safe D.hung) k, 0) := by rw [Dk.read_ok ho hk, hnow]
        rw [e1]
        have hrd := refread_any B w p D h hok k hk
        clear ho e1 hp hS hL
        go_enter Try.func32, Try.ntmps32
        go_wp2_with fail
        refine hrd.mono ?_
        rintro e w1 ⟨v, rfl, hm, hb⟩
        go_wp2_with fail
        go_ret2
        exact ⟨_, rfl, hm, hb⟩
end Go.Proofs.Ytncoclbmnhbgbaa
