/-
  DiskRuns: whatever is done with a disk, all answers and what is there are the document's.
-/
import Derived.Test.YtgcajmkbdhjooaaRunL
import Derived.Test.YtgcajmkbdhjooaaDiskB
import Derived.Deep.RegionHeld3
set_option linter.unusedVariables false
set_option linter.unusedSimpArgs false
namespace Go.Proofs.Ytgcajmkbdhjooaa.Sha
open Go.RowKit Go.Proofs.YtgcajmkbdhjooaaW.PrintWords Go.Proofs.YtgcajmkbdhjooaaW.PrintLast Go.Proofs.YtgcajmkbdhjooaaW.PrintMore Go.Proofs.Ytgcajmkbdhjooaa.Q Go.Proofs.Ytgcajmkbdhjooaa.Fr Go.Proofs.Ytgcajmkbdhjooaa.Oct
open Go.Proofs.Ytgcajmkbdhjooaa.Open (Ak kAct kAct_open)

theorem sum_get {l : List Nat} : ∀ (i : Nat) (h : i < l.length), l[i] ≤ l.sum := by
  induction l with
  | nil => intro i h; simp at h
  | cons a l ih =>
    intro i h
    cases i with
    | zero => simp
    | succ i =>
      have := ih i (by simpa using h)
      simp only [List.getElem_cons_succ, List.sum_cons]
      omega
set_option maxHeartbeats 8000000 in
set_option maxRecDepth 100000 in
theorem runs_calls (a0 : Int) (A : Option Addr) (c : Nat) (L : List Ak) (w : World) (hC : Kd.C kAct w A L.length L) (hc : L.length ≤ c) (hlen : ∀ i, i < L.length → (L.getD i zAk).bytes.length ≤ 1048576) (hok : ∀ i, i < L.length → (L.getD i zAk).ok) (hl : L.length ≤ 1048576) :
    Calls Try.prog 8 #[.int .i64 a0, .slice A L.length c] w fun e w' => e = .returned (.bool true) ∧ Below w.heap.size w w' := by
  by_cases hL : 200 < L.length
  · have c1 : decide (200 < (L.length : Int)) = true := decide_eq_true (by omega)
    clear hC hlen hok
    go_enter Try.func8, Try.ntmps8
    go_wp2_with (fail)
    refine (alive_calls w).mono ?_
    rintro e w1 ⟨rfl, hb1⟩
    have H1 := Aside0.mk (Fr.of_below hb1 (fun _ => False))
    clear hb1
    go_wp2_with (fail)
    refine (dnew_calls a0 w1).mono ?_
    rintro e w2 ⟨g, rfl, hD2, hb2⟩
    have H2 := Aside0.mk (H1.out.trans (Fr.of_below hb2 (fun _ => False)) (fun _ h => h.elim))
    clear H1 hD2 hb2
    go_wp2
    go_ret
    exact ⟨rfl, H2.out.below _ (Nat.le_refl _) (fun i h => h.elim)⟩
  have c1 : decide (200 < (L.length : Int)) = false := decide_eq_false (by omega)
  have HH := Aside0.mk (And.intro hC (And.intro hlen (And.intro hok hL)))
  clear hC hlen hok hL
  go_enter Try.func8, Try.ntmps8
  go_wp2_with (fail)
  refine (alive_calls w).mono ?_
  rintro e w1 ⟨rfl, hb1⟩
  have H1 := Aside0.mk (Fr.of_below hb1 (fun _ => False))
  clear hb1
  go_wp2_with (fail)
  refine (dnew_calls a0 w1).mono ?_
  rintro e w2 ⟨g, rfl, hD2, hb2⟩
  have H2 := Aside0.mk (Dk.new H1.out hD2 hb2)
  clear H1 hD2 hb2
  go_wp2_with (fail)
  have hn := rnew_calls a0 w2
  have HR := Aside0.mk (Rel.new a0)
  obtain ⟨r, hr⟩ : ∃ r, rdk0 a0 = r := ⟨_, rfl⟩
  rw [hr] at hn HR
  have hrb : r.bytes = [] := by rw [← hr]; rfl
  obtain ⟨bytes, room, dead, breaks, writes, tear⟩ := r
  simp only at hrb
  subst hrb
  unfold rcs at hn
  simp only at hn
  refine hn.mono ?_
  clear hn hr
  rintro e w3 ⟨rfl, hb3⟩
  have H3 := Aside0.mk (H2.out.below hb3)
  clear H2 hb3
  go_wp2_with (first | ((with_reducible refine gate_dst (N := 6) rfl ?_); refine wpList_alloc_abs (by rfl) 45 (by rfl) (.agg Z6r) (by kernel_rfl) ?_; intro w4 hb4 hs4 hg4) | ((with_reducible refine gate_store (p := 6) rfl ?_); refine Aside0.out ?_))
  refine ⟨?_⟩
  refine wpList_store_abs (by rfl) 45 _ _ (by rfl) w3.heap.size #[.slice none 0 0, .int .i64 room, .bool dead, .bool breaks, .int .i64 writes, .int .i64 tear] (by rfl) (by rfl) 45 Z6r hg4 (by kernel_rfl) (by rfl) (by simp [Value.oneCell']) ?_
  intro w5 hf5 hs5 hg5
  have h4 := H3.out.below hb4
  have hap := H3.out.apart w3.heap.size (Nat.le_refl _)
  have H5 : Rn w w5 g w3.heap.size (.slice none 0 0) (.slice none 0 0) (dsk0 a0) ⟨[], room, dead, breaks, writes, tear⟩ 0 :=
    ⟨h4.fr hf5 (fun k hk => by rw [hk]; exact hap), hg5, ⟨none, 0, rfl, Nat.le_refl _, Rd.nil _ _⟩, hap.1, hap.2, fun k hk => (by cases hk), HR.out⟩
  have H5 := Aside0.mk H5
  clear H3 h4 hap hb4 hs4 hg4 hf5 hs5 hg5
  go_wp2_with (fail)
  refine loopG A c L (by have := HH.out.2.2.2; omega) w HH.out.1 HH.out.2.1 HH.out.2.2.1 g w3.heap.size _ ?_ _ _ ⟨⟨rfl, rfl⟩, rfl, rfl, rfl, rfl, rfl, _, _, _, _, H5.out⟩
  intro a' W' bv rv d r hFm j5 j6 hR
  rw [fm150 hFm, j5, j6]
  obtain ⟨A7, c7, e7, hc7, _⟩ := hR.lies
  subst e7
  have HR := Aside0.mk hR
  clear hR H5 hFm j5 j6
  have hS : ∀ w', Rn w w' g w3.heap.size bv (.slice A7 r.bytes.length c7) d r L.length → w'.cell? ⟨w3.heap.size, 0, none⟩ = some (.slice A7 r.bytes.length c7) := fun w' h => (rset h.want).1
  have HB : ∀ w1, Below W'.heap.size W' w1 → Calls Try.prog 25 #[.pointer (some ⟨g, 0, none⟩)] w1 fun e w2 => ∃ (A : Option Addr) (c : Nat), e = .returned (.slice A r.bytes.length c) ∧ w2.cell? ⟨w3.heap.size, 0, none⟩ = some (.slice A7 r.bytes.length c7) ∧ Aside0 (Rn w w2 g w3.heap.size bv (.slice A7 r.bytes.length c7) d r L.length ∧ Rd w2 A r.bytes ∧ r.bytes.length ≤ c) := by
    intro w1 hb1
    have h1 := HR.out.below hb1
    refine (bytes_calls g w.heap.size bv d w1 h1.dk.at').mono ?_
    rintro e w2 ⟨v2, rfl, hO, hb⟩
    rw [← h1.rel.b] at hO
    obtain ⟨A, c, rfl, hc⟩ := hO.slice
    have h2 := h1.below hb
    exact ⟨A, c, rfl, hS _ h2, ⟨h2, QB.rd (q_of_own hO), hc⟩⟩
  have HC : ∀ w2 A c, Aside0 (Rn w w2 g w3.heap.size bv (.slice A7 r.bytes.length c7) d r L.length ∧ Rd w2 A r.bytes ∧ r.bytes.length ≤ c) → Calls Try.prog 20 #[.slice A r.bytes.length c, .slice A7 r.bytes.length c7] w2 fun e w4 => e = .returned (.bool true) ∧ w4.cell? ⟨w3.heap.size, 0, none⟩ = some (.slice A7 r.bytes.length c7) ∧ Aside0 (Rn w w4 g w3.heap.size bv (.slice A7 r.bytes.length c7) d r L.length) := by
    intro w2 A c h3
    obtain ⟨A8, c8, e8, hc8, hr8⟩ := h3.out.1.lies
    injection e8 with e8 _ e9
    subst e8 e9
    refine (same_calls r.bytes A c A7 c7 w2 h3.out.2.1 h3.out.2.2 hr8 hc8 (by rw [h3.out.1.rel.b]; have := h3.out.1.dk.at'.ln; omega)).mono ?_
    rintro e w4 ⟨rfl, hb⟩
    have h4 := h3.out.1.below hb
    exact ⟨rfl, hS _ h4, ⟨h4⟩⟩
  have hs11 := hS _ HR.out
  have HB := Aside0.mk HB
  have HC := Aside0.mk HC
  clear hS
  go_wp2_with (fail)
  go_region_held3 (fun w' => w'.cell? ⟨w3.heap.size, 0, none⟩ = some (.slice A7 r.bytes.length c7)) (first | exact hs11 | exact hs13 | exact hs14)
    (first | (go_at_call 25; refine (HB.out _ (below_drew (Below.refl _ _))).mono ?_; rintro e w13 ⟨A13, c13, rfl, hs13, H13⟩) | (go_at_call 20; refine (HC.out _ _ _ H13).mono ?_; rintro e w14 ⟨rfl, hs14, H14⟩))
  go_wp2
  go_ret
  exact ⟨rfl, H14.out.dk.F.below _ (Nat.le_refl _) (fun i h => h.elim)⟩
theorem runs_row (a0 : Int) (A : Option Addr) (c : Nat) (l : List Ak) (w : World) (hC : Kd.C kAct w A l.length l) (hc : l.length ≤ c) (_ : (Lit.int .i64 a0).wf = true) (hok : ∀ x ∈ l, x.ok) (hb : (l.map fun x => x.bytes.length + 5).sum + 1 ≤ 1048576) :
    Calls Try.prog 8 #[.int .i64 a0, .slice A l.length c] w fun e w' => e = .returned (.bool true) ∧ Below w.heap.size w w' := by
  have hs : ∀ i, i < l.length → (l.getD i zAk).bytes.length ≤ 1048576 := fun i hi => by
    have h1 := sum_get (l := l.map fun x => x.bytes.length + 5) i (by simpa using hi)
    rw [List.getElem_map] at h1
    rw [List.getD_eq_getElem?_getD, List.getElem?_eq_getElem hi, Option.getD_some]
    omega
  have hn : l.length ≤ (l.map fun x => x.bytes.length + 5).sum := by
    clear hb hok hC hc hs
    induction l with
    | nil => simp
    | cons x l ih => simp only [List.map_cons, List.sum_cons, List.length_cons]; omega
  exact runs_calls a0 A c l w hC hc hs (fun i hi => by
    rw [List.getD_eq_getElem?_getD, List.getElem?_eq_getElem hi, Option.getD_some]
    exact hok _ (List.getElem_mem hi)) (by omega)
end Go.Proofs.Ytgcajmkbdhjooaa.Sha
