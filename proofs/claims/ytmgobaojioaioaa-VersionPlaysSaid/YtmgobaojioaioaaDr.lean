/- Rows of bytes whose room may be cut off; many pieces as one. -/
import Derived.Test.YtmgobaojioaioaaQ
import Derived.Test.YtmgobaojioaioaaCw
namespace Go.Proofs.Ytmgobaojioaioaa
open Go Go.RowKit Go.Lib
theorem Sep.perm {w : World} {L M : List Asn} (p : L.Perm M) : ∀ F, Sep w L F → ∃ G, Sep w M G ∧ ∀ k, k ∈ G ↔ k ∈ F := by
  induction p with
  | nil => exact fun F h => ⟨F, h, fun _ => Iff.rfl⟩
  | cons A p ih =>
    rintro F ⟨F1, F2, rfl, h1, h2, hd⟩
    obtain ⟨G, hG, hm⟩ := ih F2 h2
    exact ⟨F1 ++ G, ⟨F1, G, rfl, h1, hG, fun k hk hk2 => hd k hk ((hm k).1 hk2)⟩, fun k => by simp only [List.mem_append, hm k]⟩
  | swap A B L => exact Sep.pick (.there (.here _ _))
  | trans p q ih1 ih2 =>
    intro F h
    obtain ⟨G, hG, hm⟩ := ih1 F h
    obtain ⟨H, hH, hm2⟩ := ih2 G hG
    exact ⟨H, hH, fun k => (hm2 k).trans (hm k)⟩
theorem St.perm {W w : World} {L M : List Asn} (h : St W w L) (p : L.Perm M) : St W w M := by
  obtain ⟨hb, F, hs, hF⟩ := h
  obtain ⟨G, hG, hm⟩ := Sep.perm p F hs
  exact ⟨hb, G, hG, fun k hk => hF k ((hm k).1 hk)⟩
theorem Sep.split {w : World} {M : List Asn} : ∀ {L : List Asn} {F : List Nat}, Sep w (L ++ M) F → ∃ F1 F2, F = F1 ++ F2 ∧ Sep w L F1 ∧ Sep w M F2 ∧ ∀ k ∈ F1, k ∉ F2
  | [], F, h => ⟨[], F, rfl, rfl, h, fun _ h => by cases h⟩
  | A :: L, F, ⟨F1, F2, e, h1, h2, hd⟩ => by
    obtain ⟨G1, G2, rfl, g1, g2, gd⟩ := Sep.split h2
    refine ⟨F1 ++ G1, G2, by rw [e, List.append_assoc], ⟨F1, G1, rfl, h1, g1, fun k hk hk2 => hd k hk (List.mem_append_left _ hk2)⟩, g2, fun k hk hk2 => ?_⟩
    rcases List.mem_append.1 hk with hh | hh
    · exact hd k hh (List.mem_append_right _ hk2)
    · exact gd k hh hk2
section
variable {W w : World} {L R : List Asn} {t : TypeId} {A : Option Addr} {c : Nat} {bs : List UInt8}
end
section
variable {P : Program} {ρ : Env} {w : World} {ty : TypeId}
end
section
variable {P : Program} {all : Array Oper} {ρ : Env} {W w : World} {L R : List Asn} {N : Env → World → Prop} {rest : List Oper}
end
section
variable {P : Program} {all : Array Oper} {ρ : Env} {w : World} {N : Env → World → Prop} {rest : List Oper}
end
section
variable {P : Program} {all : Array Oper} {ρ : Env} {w : World} {N : Env → World → Prop} {rest : List Oper}
end
end Go.Proofs.Ytmgobaojioaioaa
