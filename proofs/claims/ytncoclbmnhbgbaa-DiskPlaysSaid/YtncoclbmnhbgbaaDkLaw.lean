/- Plain laws of the disk: what writes, flushes and crashes come to. -/
import Derived.Test.YtncoclbmnhbgbaaDkCrash
set_option linter.unusedVariables false
set_option linter.unusedSimpArgs false
namespace Go.Proofs.Ytncoclbmnhbgbaa
open Go.RowKit

theorem Dk.write_ok {D : Dk} {k : Nat} {l : List UInt8} (hg : D.gone = false) (hk : k < D.n) (hl : l.length = 128) (ho : D.ops < 1048576) :
    D.write k l = (0, { D with off := false, now := putS D.now k l, hung := D.hung ++ [(k, l)], ops := D.ops + 1 }) := by
  simp only [Dk.write, hg]
  simp [hk, hl, ho]
theorem Dk.flush_ok {D : Dk} (hg : D.gone = false) (ho : D.ops < 1048576) : D.flush = (0, { D with off := false, safe := D.now, hung := [], ops := D.ops + 1 }) := by
  simp only [Dk.flush, hg]
  simp [ho]
theorem Dk.read_ok {D : Dk} {k : Nat} (hg : D.off = false) (hk : k < D.n) : D.read k = (sec D.now k, 0) := by
  simp [Dk.read, hg, hk]
theorem Dk.gone_no {D : Dk} (h1 : D.off = false) (h2 : D.cut < 0) : D.gone = false := by
  simp only [Dk.gone, h1, Bool.false_or, Bool.and_eq_false_iff, decide_eq_false_iff_not]
  left; omega
theorem shown_of (Z X Y : List UInt8) (hz : Z.length = 4 * 128) (hx : X.length = 128) (hy : Y.length = 128) :
    ∃ D1 D2 D3 D4 : Dk, (⟨4, Z, Z, [], 0, -1, false⟩ : Dk).write 1 X = (0, D1) ∧ D1.flush = (0, D2) ∧ D2.write 1 Y = (0, D3) ∧ D3.write 2 Y = (0, D4) ∧ D4.hung.length = 2 ∧ D4.ops = 4 ∧
      (D4.crash [0]).read 1 = (Y, 0) ∧ (D4.crash []).read 1 = (X, 0) ∧ (D4.crash [0]).hung.length = 0 := by
  have e1 := Dk.write_ok (D := ⟨4, Z, Z, [], 0, -1, false⟩) (k := 1) (l := X) (Dk.gone_no rfl (by simp)) (by simp) hx (by simp)
  refine ⟨_, _, _, _, e1, Dk.flush_ok (Dk.gone_no rfl (by simp)) (by simp), Dk.write_ok (k := 1) (Dk.gone_no rfl (by simp)) (by simp) hy (by simp), Dk.write_ok (k := 2) (Dk.gone_no rfl (by simp)) (by simp) hy (by simp), by simp, by simp, ?_, ?_, rfl⟩
  · refine (Dk.read_ok (k := 1) rfl (by simp [Dk.crash])).trans ?_
    have : sec (putS (putS Z 1 X) 1 Y) 1 = Y := sec_putS_same (n := 4) (putS_length hz hx (by omega)) hy (by omega)
    simpa [Dk.crash, crashTo] using this
  · refine (Dk.read_ok (k := 1) rfl (by simp [Dk.crash])).trans ?_
    have : sec (putS Z 1 X) 1 = X := sec_putS_same (n := 4) hz hx (by omega)
    simpa [Dk.crash, crashTo] using this
theorem shown_plain (X Y : List UInt8) (hx : X.length = 128) (hy : Y.length = 128) :
    ∃ D1 D2 D3 D4 : Dk, (Dk.new 4).write 1 X = (0, D1) ∧ D1.flush = (0, D2) ∧ D2.write 1 Y = (0, D3) ∧ D3.write 2 Y = (0, D4) ∧ D4.hung.length = 2 ∧ D4.ops = 4 ∧
      (D4.crash [0]).read 1 = (Y, 0) ∧ (D4.crash []).read 1 = (X, 0) ∧ (D4.crash [0]).hung.length = 0 := shown_of _ X Y List.length_replicate hx hy
end Go.Proofs.Ytncoclbmnhbgbaa
