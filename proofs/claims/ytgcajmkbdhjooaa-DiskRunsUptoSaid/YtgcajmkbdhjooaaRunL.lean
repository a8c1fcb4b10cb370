/-
  DiskRuns: its loop.
-/
import Derived.Test.YtgcajmkbdhjooaaRunG0
import Derived.Test.YtgcajmkbdhjooaaRunG1
import Derived.Test.YtgcajmkbdhjooaaRunG2
import Derived.Test.YtgcajmkbdhjooaaRunG3
import Derived.Test.YtgcajmkbdhjooaaRunG4
import Derived.Test.YtgcajmkbdhjooaaRunG5
set_option linter.unusedVariables false
set_option linter.unusedSimpArgs false
namespace Go.Proofs.Ytgcajmkbdhjooaa.Sha
open Go.RowKit Go.Proofs.YtgcajmkbdhjooaaW.PrintWords Go.Proofs.YtgcajmkbdhjooaaW.PrintLast Go.Proofs.YtgcajmkbdhjooaaW.PrintMore Go.Proofs.Ytgcajmkbdhjooaa.Q Go.Proofs.Ytgcajmkbdhjooaa.Fr Go.Proofs.Ytgcajmkbdhjooaa.Oct
open Go.Proofs.Ytgcajmkbdhjooaa.Open (Ak kAct kAct_open)

set_option maxHeartbeats 8000000 in
set_option maxRecDepth 100000 in
theorem exitG (u : Nat → Value) (n : Nat) (w : World) (Q : Exit → Act → World → Prop) (hQ : ∀ a', Fm 150 a' → sl a' 5 = u 5 → sl a' 6 = u 6 → Q (.exit 0) a' w) :
    Code.wp Try.prog (bodyN Try.f8 0) Q ⟨#[u 0, u 1, u 2, u 3, u 4, u 5, u 6, u 7, u 8, u 9, u 10, u 11, u 12, u 13, u 14, u 15, u 16, u 17, u 18, u 19, u 20, u 21, u 22, u 23, u 24, u 25, u 26, u 27, u 28, u 29, u 30, .int .i64 (n : Int), .int .i64 (n : Int), u 33, u 34, u 35, u 36, u 37, u 38, u 39, u 40, u 41, u 42, u 43, u 44, u 45, u 46, u 47, u 48, u 49, u 50, u 51, u 52, u 53, u 54, u 55, u 56, u 57, u 58, u 59, u 60, u 61, u 62, u 63, u 64, u 65, u 66, u 67, u 68, u 69, u 70, u 71, u 72, u 73, u 74, u 75, u 76, u 77, u 78, u 79, u 80, u 81, u 82, u 83, u 84, u 85, u 86, u 87, u 88, u 89, u 90, u 91, u 92, u 93, u 94, u 95, u 96, u 97, u 98, u 99, u 100, u 101, u 102, u 103, u 104, u 105, u 106, u 107, u 108, u 109, u 110, u 111, u 112, u 113, u 114, u 115, u 116, u 117, u 118, u 119, u 120, u 121, u 122, u 123, u 124, u 125, u 126, u 127, u 128, u 129, u 130, u 131, u 132, u 133, u 134, u 135, u 136, u 137, u 138, u 139, u 140, u 141, u 142, u 143, u 144, u 145, u 146, u 147, u 148, u 149], []⟩ w := by
  have c0 : decide ((n : Int) < (n : Int)) = false := by simp
  have HQ := Aside0.mk hQ
  clear hQ
  conv => arg 2; whnf
  go_wp2
  exact HQ.out _ ⟨rfl, rfl⟩ rfl rfl
theorem loopG (A : Option Addr) (c : Nat) (L : List Ak) (hL : L.length ≤ 200) (w : World) (hC : Kd.C kAct w A L.length L) (hlen : ∀ i, i < L.length → (L.getD i zAk).bytes.length ≤ 1048576) (hok : ∀ i, i < L.length → (L.getD i zAk).ok) (g gw : Nat)
    (Q : Exit → Act → World → Prop) (hQ : ∀ a' W' bv rv d r, Fm 150 a' → sl a' 5 = .pointer (some ⟨g, 0, none⟩) → sl a' 6 = .pointer (some ⟨gw, 0, none⟩) → Rn w W' g gw bv rv d r L.length → Q (.exit 0) a' W')
    (a : Act) (W : World) (h : Fm 150 a ∧ sl a 5 = .pointer (some ⟨g, 0, none⟩) ∧ sl a 6 = .pointer (some ⟨gw, 0, none⟩) ∧ sl a 30 = .slice A L.length c ∧ sl a 31 = .int .i64 (L.length : Int) ∧ sl a 32 = .int .i64 0 ∧ ∃ bv rv d r, Rn w W g gw bv rv d r 0) : (Code.loop (bodyN Try.f8 0)).wp Try.prog Q a W := by
  refine wp_loop_up L.length (fun t a W => Fm 150 a ∧ sl a 5 = .pointer (some ⟨g, 0, none⟩) ∧ sl a 6 = .pointer (some ⟨gw, 0, none⟩) ∧ sl a 30 = .slice A L.length c ∧ sl a 31 = .int .i64 (L.length : Int) ∧ sl a 32 = .int .i64 (t : Int) ∧ ∃ bv rv d r, Rn w W g gw bv rv d r t) ?_ ?_
  · exact h
  rintro t a W ht ⟨hF, h5, h6, h30, h31, h32, bv, rv, d, r, hR⟩
  have ha := fm150 hF
  by_cases h64 : t = L.length
  · subst h64
    rw [h31, h32] at ha
    rw [ha]
    exact exitG (sl a) _ W _ fun a' b0 b5 b6 => hQ _ _ _ _ _ _ b0 (b5.trans h5) (b6.trans h6) hR
  · rw [h5, h6, h30, h31, h32] at ha
    rw [ha]
    have hi : t < L.length := by omega
    have hK : ∀ a' W' bv' rv' d' r', Fm 150 a' → sl a' 5 = .pointer (some ⟨g, 0, none⟩) → sl a' 6 = .pointer (some ⟨gw, 0, none⟩) → sl a' 30 = .slice A L.length c → sl a' 31 = .int .i64 (L.length : Int) → sl a' 32 = .int .i64 ((t : Int) + 1) → Rn w W' g gw bv' rv' d' r' (t + 1) → t + 1 ≤ L.length ∧ Fm 150 a' ∧ sl a' 5 = .pointer (some ⟨g, 0, none⟩) ∧ sl a' 6 = .pointer (some ⟨gw, 0, none⟩) ∧ sl a' 30 = .slice A L.length c ∧ sl a' 31 = .int .i64 (L.length : Int) ∧ sl a' 32 = .int .i64 ((t + 1 : Nat) : Int) ∧ ∃ bv rv d r, Rn w W' g gw bv rv d r (t + 1) := fun a' W' bv' rv' d' r' b0 b5 b6 b30 b31 b32 hR' => ⟨by omega, b0, b5, b6, b30, b31, by rw [b32]; congr 1, bv', rv', d', r', hR'⟩
    by_cases k0 : (L.getD t zAk).kind = 0
    · exact roundG0 (sl a) A c L t hi hL w W hC (hlen t hi) (hok t hi) k0 g gw bv rv d r hR _ hK
    by_cases k1 : (L.getD t zAk).kind = 1
    · exact roundG1 (sl a) A c L t hi hL w W hC (hlen t hi) (hok t hi) k1 g gw bv rv d r hR _ hK
    by_cases k2 : (L.getD t zAk).kind = 2
    · exact roundG2 (sl a) A c L t hi hL w W hC (hlen t hi) (hok t hi) k2 g gw bv rv d r hR _ hK
    by_cases k3 : (L.getD t zAk).kind = 3
    · exact roundG3 (sl a) A c L t hi hL w W hC (hlen t hi) (hok t hi) k3 g gw bv rv d r hR _ hK
    by_cases k4 : (L.getD t zAk).kind = 4
    · exact roundG4 (sl a) A c L t hi hL w W hC (hlen t hi) (hok t hi) k4 g gw bv rv d r hR _ hK
    exact roundG5 (sl a) A c L t hi hL w W hC (hlen t hi) (hok t hi) ⟨k0, k1, k2, k3, k4⟩ g gw bv rv d r hR _ hK
end Go.Proofs.Ytgcajmkbdhjooaa.Sha
