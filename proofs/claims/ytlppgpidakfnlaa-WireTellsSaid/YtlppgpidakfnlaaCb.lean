/- What was written is read as it was: the reader's calls on what the writer's made. -/
import Derived.Test.YtlppgpidakfnlaaCt
namespace Go.Proofs.Ytlppgpidakfnlaa
open Go Go.RowKit Go.Lib
variable {W : World}

theorem rNat_enc {w : World} {L R : List Asn} {g : Nat} {rest : List UInt8} {b : Bool} {n most : Int} (hS : St W w L) (pk : Pick L (rdrA W 197 g ⟨enc n.toNat ++ rest, b⟩) R) (h0 : 0 ≤ n) (hn : n ≤ most) (h1 : most < 18446744073709551616) :
  Calls Try.prog 82 #[.pointer (some ⟨g, 0, none⟩), .int .u64 most] w fun e w' => e = .returned (.int .u64 n) ∧ St W w' (rdrA W 197 g ⟨rest, b⟩ :: R) :=
  (rNat hS pk (by omega) h1).mono fun e w' h => by
    rw [Rs.nat_enc (by omega) (by omega)] at h
    rw [h.1]
    exact ⟨congrArg (fun n => Ending.returned (.int .u64 n)) (Int.toNat_of_nonneg h0), h.2⟩
theorem rInt_enc {w : World} {L R : List Asn} {g : Nat} {rest : List UInt8} {b : Bool} {n : Int} (hS : St W w L) (pk : Pick L (rdrA W 197 g ⟨enc (zig n) ++ rest, b⟩) R) (h0 : -9223372036854775808 ≤ n) (h1 : n ≤ 9223372036854775807) :
  Calls Try.prog 149 #[.pointer (some ⟨g, 0, none⟩)] w fun e w' => e = .returned (.int .i64 n) ∧ St W w' (rdrA W 197 g ⟨rest, b⟩ :: R) :=
  (rInt hS pk).mono fun e w' h => by rw [Rs.int_enc h0 h1] at h; exact h
theorem rText_enc {w : World} {L R : List Asn} {g : Nat} {rest : List UInt8} {b : Bool} {s : ByteArray} {most : Int} (hS : St W w L) (pk : Pick L (rdrA W 197 g ⟨enc s.size ++ s.data.toList ++ rest, b⟩) R) (hn : (s.size : Int) ≤ most) (h1 : most ≤ 9223372036854775807) :
  Calls Try.prog 118 #[.pointer (some ⟨g, 0, none⟩), .int .i64 most] w fun e w' => e = .returned (.string s) ∧ St W w' (rdrA W 197 g ⟨rest, b⟩ :: R) :=
  (rText hS pk h1).mono fun e w' h => by
    have hl : s.data.toList.length = s.size := by simp
    rw [← hl, Rs.text_enc (by omega) (by omega)] at h
    exact h
end Go.Proofs.Ytlppgpidakfnlaa
