/-
  What the ledger's laws use beside the ledger: copies of votes.
-/
import Derived.Test.YtnabilhcmplhcaaLgM2
import Derived.Test.YtnabilhcmplhcaaQx12
set_option linter.unusedVariables false
set_option linter.unusedSimpArgs false
namespace Go.Proofs.Ytnabilhcmplhcaa.Sha
open Go.RowKit Go.Proofs.YtnabilhcmplhcaaW.PrintWords Go.Proofs.YtnabilhcmplhcaaW.PrintLast Go.Proofs.YtnabilhcmplhcaaW.PrintMore Go.Proofs.Ytnabilhcmplhcaa.Q Go.Proofs.Ytnabilhcmplhcaa.Fr Go.Proofs.Ytnabilhcmplhcaa.Oct

theorem copyv_loop (l : List S55) (hl : l.length ≤ 1048576) (hb : ∀ x ∈ l, x.f1.length < 140737488355328) (d : Nat) : ∀ (k i : Nat), i + d = l.length → d < k → catenaryref05_CopyVotes.l0 k (l.take i) l (l.length : Int) (i : Int) = some l := by
  induction d with
  | zero =>
    intro k i h1 h2
    obtain ⟨k, rfl⟩ : ∃ k', k = k' + 1 := ⟨k - 1, by omega⟩
    rw [catenaryref05_CopyVotes.l0, if_neg (by omega), List.take_of_length_le (by omega)]
  | succ d ih =>
    intro k i h1 h2
    obtain ⟨k, rfl⟩ : ∃ k', k = k' + 1 := ⟨k - 1, by omega⟩
    have hi : i < l.length := by omega
    have e : rd_T55 l (i : Int) = l[i] := by simp [rd_T55, List.getD_eq_getElem?_getD, List.getElem?_eq_getElem hi]
    have hx := hb l[i] (List.getElem_mem hi)
    rw [catenaryref05_CopyVotes.l0, if_pos (by omega), if_pos (by omega), if_pos (by omega), Option.bind_some, e, List.nil_append, List.length_nil, Nat.zero_add, if_pos hx, if_pos (by rw [List.length_take]; omega)]
    rw [show wrap64 ((i : Int) + 1) = ((i + 1 : Nat) : Int) by unfold wrap64; omega]
    have := ih k (i + 1) (by omega) (by omega)
    rw [List.take_add_one, List.getElem?_eq_getElem hi] at this
    exact this
def prV (x : S55) : Int × List Int := (x.f0, x.f1)
theorem VC.of_C {w : World} {A : Option Addr} {l : List S55} (h : Kd.C k55 w A l.length l) (ht : ∀ ad, A = some ad → ∃ cells fr, w.heap[ad.block]? = some (.cells cells 55 fr)) : VC w A (l.map prV) := fun i v hi => by
  rw [List.getElem?_map, Option.map_eq_some_iff] at hi
  obtain ⟨x, hx, rfl⟩ := hi
  have hlt := (List.getElem?_eq_some_iff.1 hx).1
  obtain ⟨ad, A1, c1, rfl, h1, h2, h3, h4⟩ := at_T55 h (i : Int) (by omega) (by omega)
  have e : rd_T55 l (i : Int) = x := by simp [rd_T55, List.getD_eq_getElem?_getD, hx]
  rw [e] at h1 h2 h3 h4
  exact ⟨ad, A1, c1, rfl, ht ad rfl, h1, h2, h3, Rd.of_C h4⟩
theorem C_one {w : World} {g : Nat} {si : Int} {A : Option Addr} {c : Nat} {t : List Int} {fr : Nat × Nat} (h : w.heap[g]? = some (.cells #[.int .i64 si, .slice A t.length c] 55 fr)) (hc : t.length ≤ c) (hr : Rd w A t) (hl : t.length ≤ 9223372036854775807) : Kd.C k55 w (some ⟨g, 0, none⟩) 1 [(⟨si, t⟩ : S55)] := by
  refine ⟨rfl, by omega, fun _ => ⟨_, rfl, fun j p hj => ?_⟩⟩
  cases j with
  | zero =>
    have : p = ⟨si, t⟩ := by simpa using hj.symm
    subst this
    refine ⟨_, rfl, k55_mk w ⟨si, t⟩ hc (hr.C hl), fun i u hu => ?_⟩
    rw [add_at]
    simp only [World.cell?, h]
    rcases i with _ | _ | i
    · simpa using hu
    · simpa using hu
    · simp at hu
  | succ j => simp at hj
theorem copyv_calls (A : Option Addr) (c : Nat) (l : List S55) (w : World) (hr : Kd.C k55 w A l.length l) (hc : l.length ≤ c) (hl : l.length ≤ 1048576) (hb : ∀ x ∈ l, x.f1.length < 140737488355328) :
    Calls Try.prog 14 #[.slice A l.length c] w fun e w' => ∃ B d, e = .returned (.slice B l.length d) ∧ l.length ≤ d ∧ VC w' B (l.map prV) ∧ Below w.heap.size w w' := by
  refine (catenaryref05_CopyVotes.calls (l.length + 1) A c l l w hr hc (by
    have := copyv_loop l hl hb l.length (l.length + 1) 0 (by omega) (by omega)
    simpa [catenaryref05_CopyVotes.f] using this)).mono ?_
  rintro e w' ⟨v, rfl, hS, hbel⟩
  obtain ⟨B, d, rfl, hd, hC⟩ := Kd.S_reads hS
  obtain ⟨inner, _, ⟨e, _⟩ | ⟨g, cap, cur, e, _, hg, _⟩⟩ := Kd.S_own hS
  · injection e with e1 e2 e3
    subst e1
    exact ⟨none, d, rfl, hd, VC.of_C hC (fun ad e => by cases e), hbel⟩
  · injection e with e1 e2 e3
    subst e1
    exact ⟨_, d, rfl, hd, VC.of_C hC (fun ad e => by cases e; exact ⟨_, _, hg⟩), hbel⟩
end Go.Proofs.Ytnabilhcmplhcaa.Sha
