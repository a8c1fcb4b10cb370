/-
  WalKeeps, its second and third loop.
-/
import Derived.Test.YtkkgjbafncmohaaWalQ
set_option linter.unusedVariables false
set_option linter.unusedSimpArgs false
namespace Go.Proofs.Ytkkgjbafncmohaa.Sha
open Go.RowKit Go.Proofs.YtkkgjbafncmohaaW.PrintWords Go.Proofs.YtkkgjbafncmohaaW.PrintLast Go.Proofs.YtkkgjbafncmohaaW.PrintMore Go.Proofs.Ytkkgjbafncmohaa.Q Go.Proofs.Ytkkgjbafncmohaa.Fr Go.Proofs.Ytkkgjbafncmohaa.Oct

/-- The disk behind t records that were taken. -/
def kpD (L : List (List Int)) (at_ tear : Int) (t : Nat) : Dsk := ⟨packA (L.take t), 4194304, false, true, max 0 at_ - t, tear⟩
/-- The disk that broke at the record behind them. -/
def kpT (L : List (List Int)) (at_ tear : Int) (t : Nat) : Dsk := ⟨packA (L.take t) ++ (bytesA (L.getD t [])).take (clampN tear (bytesA (L.getD t [])).length), 4194304, true, true, max 0 at_ - t, tear⟩
theorem pack_take (L : List (List Int)) (t : Nat) (h : t < L.length) : packA (L.take (t + 1)) = packA (L.take t) ++ bytesA (L.getD t []) := by
  rw [List.take_succ_eq_append_getElem h, packA_append, packA_cons, packA_nil, List.append_nil]
  simp [List.getD_eq_getElem?_getD, List.getElem?_eq_getElem h]
theorem tot_take_le (L : List (List Int)) (t : Nat) : tot (L.take t) ≤ tot L := by
  conv => rhs; rw [← List.take_append_drop t L, tot_append]
  omega
theorem kp_step (L : List (List Int)) (at_ tear : Int) (t : Nat) (ht : t < L.length) (hs : tot L ≤ 100005) : (t < at_.toNat → (kpD L at_ tear t).app (bytesA (L.getD t [])) = (0, kpD L at_ tear (t + 1))) ∧ (t = at_.toNat → (kpD L at_ tear t).app (bytesA (L.getD t [])) = (115, kpT L at_ tear t)) := by
  have h1 := tot_pack (L.take (t + 1))
  have h2 := tot_take_le L (t + 1)
  rw [pack_take L t ht, List.length_append] at h1
  have h3 : ((packA (L.take t)).length : Int) + ((bytesA (L.getD t [])).length : Int) ≤ 4194304 := by omega
  constructor
  · intro h
    rw [kpD, Dsk.app_ok _ _ rfl h3 (by show ¬ (true = true ∧ max 0 at_ - (t : Int) = 0); omega), kpD, pack_take L t ht]
    simp only
    congr 2
    omega
  · intro h
    rw [kpD, Dsk.app_tear _ _ rfl h3 ⟨rfl, by show max 0 at_ - (t : Int) = 0; omega⟩]
    rfl
set_option maxHeartbeats 8000000 in
set_option maxRecDepth 100000 in
theorem roundK2 (u : Nat → Value) (A : Option Addr) (c : Nat) (L : List (List Int)) (i : Nat) (hi : i < L.length) (hL : L.length ≤ 4611686018427387904) (hb : (L.getD i []).length ≤ 1000000) (w W : World) (hC : CC w A L) (gl g : Nat) (bv : Value) (d d' : Dsk) (er : Int) (H : Lk w W gl g bv d)
    (hw : -4611686018427387904 ≤ d.writes) (hw2 : d.writes ≤ 9223372036854775807) (hstep : d.app (bytesA (L.getD i [])) = (er, d')) (hcase : er = 0 ∨ er = 115)
    (Q : Exit → Act → World → Prop)
    (hout : er = 115 → ∀ a' W' bv', Fm 151 a' → sl a' 0 = u 0 → sl a' 1 = u 1 → sl a' 2 = u 2 → sl a' 10 = u 10 → sl a' 11 = .pointer (some ⟨gl, 0, none⟩) → sl a' 14 = .int .i64 (i : Int) → Lk w W' gl g bv' d' → Q (.exit 2) a' W')
    (hQ : er = 0 → ∀ a' W' bv', Fm 151 a' → sl a' 0 = u 0 → sl a' 1 = u 1 → sl a' 2 = u 2 → sl a' 10 = u 10 → sl a' 11 = .pointer (some ⟨gl, 0, none⟩) → sl a' 14 = .int .i64 ((i : Int) + 1) → sl a' 62 = .slice A L.length c → sl a' 63 = .int .i64 (L.length : Int) → sl a' 64 = .int .i64 ((i : Int) + 1) → Lk w W' gl g bv' d' → Q .normal a' W') :
    Code.wp Try.prog (bodyN Try.f4 1) Q ⟨#[u 0, u 1, u 2, u 3, u 4, u 5, u 6, u 7, u 8, u 9, u 10, .pointer (some ⟨gl, 0, none⟩), u 12, u 13, .int .i64 (i : Int), u 15, u 16, u 17, u 18, u 19, u 20, u 21, u 22, u 23, u 24, u 25, u 26, u 27, u 28, u 29, u 30, u 31, u 32, u 33, u 34, u 35, u 36, u 37, u 38, u 39, u 40, u 41, u 42, u 43, u 44, u 45, u 46, u 47, u 48, u 49, u 50, u 51, u 52, u 53, u 54, u 55, u 56, u 57, u 58, u 59, u 60, u 61, .slice A L.length c, .int .i64 (L.length : Int), .int .i64 (i : Int), u 65, u 66, u 67, u 68, u 69, u 70, u 71, u 72, u 73, u 74, u 75, u 76, u 77, u 78, u 79, u 80, u 81, u 82, u 83, u 84, u 85, u 86, u 87, u 88, u 89, u 90, u 91, u 92, u 93, u 94, u 95, u 96, u 97, u 98, u 99, u 100, u 101, u 102, u 103, u 104, u 105, u 106, u 107, u 108, u 109, u 110, u 111, u 112, u 113, u 114, u 115, u 116, u 117, u 118, u 119, u 120, u 121, u 122, u 123, u 124, u 125, u 126, u 127, u 128, u 129, u 130, u 131, u 132, u 133, u 134, u 135, u 136, u 137, u 138, u 139, u 140, u 141, u 142, u 143, u 144, u 145, u 146, u 147, u 148, u 149, u 150], []⟩ W := by
  obtain ⟨ad, A0, c0, rfl, hcell0, hc0, hr⟩ := hC.get i hi
  have hcell := H.dk.F.cell hcell0 (fun h => h)
  clear hC hcell0
  obtain ⟨b, hn⟩ : ∃ b, L.getD i [] = b := ⟨_, rfl⟩
  rw [hn] at hcell hc0 hr hb hstep
  clear hn
  obtain ⟨m, hm⟩ : ∃ m, L.length = m := ⟨_, rfl⟩
  rw [hm] at hi hL hQ ⊢
  clear hm
  have b0 : decide ((i : Int) < (m : Int)) = true := decide_eq_true (by omega)
  have b1 : (0 : Int) ≤ (i : Int) := by omega
  have b2 : (i : Int) < (m : Int) := by omega
  have HH := Aside0.mk (And.intro H (And.intro hr (And.intro hb (And.intro hstep (And.intro hw hw2)))))
  have HO := Aside0.mk hout
  have HQ := Aside0.mk hQ
  clear H hr hb hstep hout hQ hw hw2
  have b5 : wrap64 ((i : Int) + 1) = (i : Int) + 1 := by unfold wrap64; omega
  have B5 := Aside0.mk b5
  clear b5
  conv => arg 2; whnf
  go_wp2_with (first | ((with_reducible refine gate_dst (N := 69) rfl ?_); refine wpList_copyb rfl (by rfl) (fun _ => by rfl) (fun _ _ => by rfl) (by first | (go_simp; done) | (go_simp; rfl)) _ (by rfl) A0 b.length c0 b (fun _ => rfl) rfl (HH.out.2.1.fr HH.out.1.dk.F (fun _ _ h => h)) _ _ (by rfl) (fun _ _ => rfl) (fun _ _ => rfl) (by have := HH.out.2.2.1; omega) ?_; intro u3 v3 w3 hO3 hb3; obtain ⟨A3, c3, rfl, hc3⟩ := hO3.slice))
  have h3 := HH.out.1.below hb3
  refine (add_calls gl g w.heap.size bv d A3 c3 b w3 h3.log h3.far h3.dk.at' h3.dk.F.size (QB.rd (q_of_own hO3)) hc3 (by have := HH.out.2.2.1; omega) HH.out.2.2.2.2.1 HH.out.2.2.2.2.2).mono ?_
  rintro e w4 ⟨rfl, hf4, bv4, hD4, hn4⟩
  rw [HH.out.2.2.2.1] at hD4 ⊢
  have H4 := Aside0.mk (h3.call hf4 hD4 hn4)
  clear h3 hO3 hb3 hf4 hD4 hn4 hc3
  have b5 := B5.out
  rcases hcase with rfl | rfl
  · go_wp2
    exact HQ.out (by first | rfl | trivial) _ _ bv4 ⟨rfl, rfl⟩ rfl rfl rfl rfl rfl rfl rfl rfl rfl H4.out
  · go_wp2
    exact HO.out (by first | rfl | trivial) _ _ bv4 ⟨rfl, rfl⟩ rfl rfl rfl rfl rfl rfl H4.out
set_option maxHeartbeats 8000000 in
set_option maxRecDepth 100000 in
theorem exitK2 (u : Nat → Value) (n : Nat) (w : World) (Q : Exit → Act → World → Prop) (hQ : ∀ a', Fm 151 a' → sl a' 0 = u 0 → sl a' 1 = u 1 → sl a' 2 = u 2 → sl a' 10 = u 10 → sl a' 11 = u 11 → sl a' 14 = u 14 → Q (.exit 2) a' w) :
    Code.wp Try.prog (bodyN Try.f4 1) Q ⟨#[u 0, u 1, u 2, u 3, u 4, u 5, u 6, u 7, u 8, u 9, u 10, u 11, u 12, u 13, u 14, u 15, u 16, u 17, u 18, u 19, u 20, u 21, u 22, u 23, u 24, u 25, u 26, u 27, u 28, u 29, u 30, u 31, u 32, u 33, u 34, u 35, u 36, u 37, u 38, u 39, u 40, u 41, u 42, u 43, u 44, u 45, u 46, u 47, u 48, u 49, u 50, u 51, u 52, u 53, u 54, u 55, u 56, u 57, u 58, u 59, u 60, u 61, u 62, .int .i64 (n : Int), .int .i64 (n : Int), u 65, u 66, u 67, u 68, u 69, u 70, u 71, u 72, u 73, u 74, u 75, u 76, u 77, u 78, u 79, u 80, u 81, u 82, u 83, u 84, u 85, u 86, u 87, u 88, u 89, u 90, u 91, u 92, u 93, u 94, u 95, u 96, u 97, u 98, u 99, u 100, u 101, u 102, u 103, u 104, u 105, u 106, u 107, u 108, u 109, u 110, u 111, u 112, u 113, u 114, u 115, u 116, u 117, u 118, u 119, u 120, u 121, u 122, u 123, u 124, u 125, u 126, u 127, u 128, u 129, u 130, u 131, u 132, u 133, u 134, u 135, u 136, u 137, u 138, u 139, u 140, u 141, u 142, u 143, u 144, u 145, u 146, u 147, u 148, u 149, u 150], []⟩ w := by
  have c0 : decide ((n : Int) < (n : Int)) = false := by simp
  have HQ := Aside0.mk hQ
  clear hQ
  conv => arg 2; whnf
  go_wp2
  exact HQ.out _ ⟨rfl, rfl⟩ rfl rfl rfl rfl rfl rfl
/-- What the third loop begins with: records, something torn; T were taken. -/
structure KJ (d : Dsk) (L : List (List Int)) (T M : Nat) (t : List Int) : Prop where
  bytes : d.bytes = packA (L.take M) ++ t
  torn : Torn t
  bys : Bys (packA (L.take M) ++ t)
  lo : T ≤ M
  hi : M ≤ T + 1
  ln : M ≤ L.length
  room : d.room = 4194304
  sz : (packA (L.take M) ++ t).length ≤ 300000
theorem kp_end (L : List (List Int)) (at_ tear : Int) (hB : ∀ x ∈ L, Bys x) (hs : tot L ≤ 100005) : KJ (kpD L at_ tear L.length) L L.length L.length [] := by
  have h1 := tot_pack L
  exact ⟨by rw [List.append_nil]; rfl, torn_nil, by rw [List.append_nil, List.take_length]; exact packA_bys hB, Nat.le_refl _, by omega, Nat.le_refl _, rfl, by rw [List.append_nil, List.take_length]; omega⟩
theorem kp_torn (L : List (List Int)) (at_ tear : Int) (t : Nat) (ht : t < L.length) (hB : ∀ x ∈ L, Bys x) (hs : tot L ≤ 100005) : ∃ M t', KJ (kpT L at_ tear t) L t M t' := by
  have h1 := tot_pack (L.take (t + 1))
  have h2 := tot_take_le L (t + 1)
  have hp := pack_take L t ht
  have hBt : ∀ n, ∀ x ∈ L.take n, Bys x := fun n x hx => hB x (List.mem_of_mem_take hx)
  have hmem : L.getD t [] ∈ L := by rw [List.getD_eq_getElem?_getD, List.getElem?_eq_getElem ht]; exact List.getElem_mem ht
  have hlen := tot_mem hmem
  by_cases hm : clampN tear (bytesA (L.getD t [])).length < (bytesA (L.getD t [])).length
  · refine ⟨t, (bytesA (L.getD t [])).take (clampN tear (bytesA (L.getD t [])).length), rfl, torn_take _ (by omega) _ hm, ?_, Nat.le_refl _, by omega, by omega, rfl, ?_⟩
    · exact (packA_bys (hBt t)).append ((bytesA_bys (hB _ hmem)).take _)
    · rw [hp, List.length_append] at h1
      rw [List.length_append, List.length_take]
      omega
  · refine ⟨t + 1, [], ?_, torn_nil, ?_, by omega, Nat.le_refl _, by omega, rfl, ?_⟩
    · rw [List.append_nil, hp]
      show packA (L.take t) ++ (bytesA (L.getD t [])).take (clampN tear (bytesA (L.getD t [])).length) = _
      rw [List.take_of_length_le (l := bytesA (L.getD t [])) (Nat.le_of_not_lt hm)]
    · rw [List.append_nil]; exact packA_bys (hBt _)
    · rw [List.append_nil]; omega
theorem loopK2 (s0 s1 s2 s10 : Value) (A : Option Addr) (c : Nat) (L : List (List Int)) (hL : L.length ≤ 4611686018427387904) (hs : tot L ≤ 100005) (at_ tear : Int) (hat : at_ ≤ 9223372036854775807) (w : World) (hC : CC w A L) (hB : ∀ x ∈ L, Bys x) (gl g : Nat)
    (Q : Exit → Act → World → Prop)
    (hQ : ∀ a' W bv d (T M : Nat) t, Fm 151 a' → sl a' 0 = s0 → sl a' 1 = s1 → sl a' 2 = s2 → sl a' 10 = s10 → sl a' 11 = .pointer (some ⟨gl, 0, none⟩) → sl a' 14 = .int .i64 (T : Int) → Lk w W gl g bv d → KJ d L T M t → Q (.exit 2) a' W)
    (a : Act) (W : World) (bv : Value) (h : Fm 151 a ∧ sl a 0 = s0 ∧ sl a 1 = s1 ∧ sl a 2 = s2 ∧ sl a 10 = s10 ∧ sl a 11 = .pointer (some ⟨gl, 0, none⟩) ∧ sl a 14 = .int .i64 0 ∧ sl a 62 = .slice A L.length c ∧ sl a 63 = .int .i64 (L.length : Int) ∧ sl a 64 = .int .i64 0 ∧ Lk w W gl g bv (kpD L at_ tear 0)) : (Code.loop (bodyN Try.f4 1)).wp Try.prog Q a W := by
  refine wp_loop_up L.length (fun t a W => Fm 151 a ∧ sl a 0 = s0 ∧ sl a 1 = s1 ∧ sl a 2 = s2 ∧ sl a 10 = s10 ∧ sl a 11 = .pointer (some ⟨gl, 0, none⟩) ∧ sl a 14 = .int .i64 (t : Int) ∧ sl a 62 = .slice A L.length c ∧ sl a 63 = .int .i64 (L.length : Int) ∧ sl a 64 = .int .i64 (t : Int) ∧ t ≤ at_.toNat ∧ ∃ bv, Lk w W gl g bv (kpD L at_ tear t)) ?_ ?_
  · obtain ⟨h0, h1, h2, h3, h4, h5, h6, h7, h8, h9, h10⟩ := h
    exact ⟨h0, h1, h2, h3, h4, h5, h6, h7, h8, h9, Nat.zero_le _, bv, h10⟩
  rintro t a W ht ⟨hF, h0, h1, h2, h10, h11, h14, h62, h63, h64, htk, bv, hLk⟩
  have ha := fm151 hF
  by_cases he : t = L.length
  · subst he
    rw [h63, h64] at ha
    rw [ha]
    exact exitK2 (sl a) _ W _ fun a' b0 b1 b2 b3 b4 b5 b6 => hQ _ _ bv _ L.length L.length [] b0 (b1.trans h0) (b2.trans h1) (b3.trans h2) (b4.trans h10) (b5.trans h11) (b6.trans h14) hLk (kp_end L at_ tear hB hs)
  · rw [h11, h14, h62, h63, h64] at ha
    rw [ha]
    have hlt : t < L.length := by omega
    have hb : (L.getD t []).length ≤ 1000000 := by
      have hmem : L.getD t [] ∈ L := by rw [List.getD_eq_getElem?_getD, List.getElem?_eq_getElem hlt]; exact List.getElem_mem hlt
      have := tot_mem hmem
      omega
    have hst := kp_step L at_ tear t hlt hs
    have hwr : -4611686018427387904 ≤ (kpD L at_ tear t).writes ∧ (kpD L at_ tear t).writes ≤ 9223372036854775807 := by
      show -4611686018427387904 ≤ max 0 at_ - (t : Int) ∧ max 0 at_ - (t : Int) ≤ 9223372036854775807
      omega
    by_cases hk : t < at_.toNat
    · refine roundK2 (sl a) A c L t hlt hL hb w W hC gl g bv _ _ 0 hLk hwr.1 hwr.2 (hst.1 hk) (.inl rfl) _ (fun h => by simp at h) ?_
      intro _ a' W' bv' f0 f1 f2 f3 f4 f5 f6 f7 f8 f9 f10
      exact ⟨hlt, f0, f1.trans h0, f2.trans h1, f3.trans h2, f4.trans h10, f5, by rw [f6]; congr 1, f7, f8, by rw [f9]; congr 1, by omega, bv', f10⟩
    · have hk' : t = at_.toNat := by omega
      obtain ⟨M, t', hKJ⟩ := kp_torn L at_ tear t hlt hB hs
      refine roundK2 (sl a) A c L t hlt hL hb w W hC gl g bv _ _ 115 hLk hwr.1 hwr.2 (hst.2 hk') (.inr rfl) _ ?_ (fun h => by simp at h)
      intro _ a' W' bv' f0 f1 f2 f3 f4 f5 f6 f7
      exact hQ _ _ bv' _ t M t' f0 (f1.trans h0) (f2.trans h1) (f3.trans h2) (f4.trans h10) f5 f6 f7 hKJ
/-- A part of a list of byte lists. -/
theorem CC.take {w : World} {A : Option Addr} {L : List (List Int)} (h : CC w A L) (k : Nat) : CC w A (L.take k) := by
  refine ⟨rfl, by rw [List.length_take]; have := h.2.1; omega, fun hn => ?_⟩
  obtain ⟨ad, e, hc⟩ := h.2.2 (by rw [List.length_take] at hn; omega)
  exact ⟨ad, e, fun j p hj => hc j p (by
    rw [List.getElem?_take] at hj
    split at hj
    · exact hj
    · simp at hj)⟩
/-- What opening leaves of it. -/
theorem kp_open (d : Dsk) (L : List (List Int)) (T M : Nat) (t : List Int) (h : KJ d L T M t) (hB : ∀ x ∈ L, Bys x) (hs : tot L ≤ 100005) : ∃ d', d.mend.open = (d', L.take M, 0) ∧ d'.bytes = packA (L.take M) ∧ d'.dead = false ∧ d'.set = false ∧ d'.room = 4194304 ∧ -1 ≤ d'.writes ∧ d'.writes ≤ 0 := by
  have hx : ∀ x ∈ L.take M, x.length ≤ 2147483647 := fun x hx => by have := tot_mem (List.mem_of_mem_take hx); omega
  have hsc := scanA_pack (L.take M) t h.torn hx h.bys (by have := h.sz; omega)
  rw [← h.bytes] at hsc
  have hmb : d.mend.bytes = d.bytes := rfl
  have hlen := congrArg List.length h.bytes
  rw [List.length_append] at hlen
  unfold Dsk.open
  rw [if_neg (by show ¬ false = true; decide), hmb, hsc]
  by_cases ht : t = []
  · subst ht
    rw [if_neg (by simp at hlen; simp only; omega)]
    exact ⟨_, rfl, by rw [hmb, h.bytes, List.append_nil], rfl, rfl, h.room, by show (-1 : Int) ≤ 0; decide, by show (0 : Int) ≤ 0; decide⟩
  · have hp := List.length_pos_iff.2 ht
    have hsz := h.sz
    rw [List.length_append] at hsz
    have htk : d.bytes.take (packA (L.take M)).length = packA (L.take M) := by rw [h.bytes, List.take_left]
    have hrep : d.mend.rep (packA (L.take M)) = (0, { d.mend with bytes := packA (L.take M), writes := d.mend.writes - 1 }) := Dsk.rep_ok _ _ rfl (by show ((packA (L.take M)).length : Int) ≤ d.room; rw [h.room]; omega) (by show ¬ (false = true ∧ _); simp)
    simp only
    rw [if_pos (by omega), htk, hrep, if_pos rfl]
    exact ⟨_, rfl, rfl, rfl, rfl, h.room, by show (-1 : Int) ≤ 0 - 1; decide, by show (0 : Int) - 1 ≤ 0; decide⟩
theorem kp_next (L : List (List Int)) (d' : Dsk) (M : Nat) (hM : M ≤ L.length) (hb : d'.bytes = packA (L.take M)) (hr : d'.room = 4194304) (hB : ∀ x ∈ L, Bys x) (hs : tot L ≤ 100005) : KJ d' L M M [] := by
  have h1 := tot_pack (L.take M)
  have h2 := tot_take_le L M
  exact ⟨by rw [List.append_nil]; exact hb, torn_nil, by rw [List.append_nil]; exact packA_bys (fun x hx => hB x (List.mem_of_mem_take hx)), Nat.le_refl _, by omega, hM, hr, by rw [List.append_nil]; omega⟩
set_option maxHeartbeats 8000000 in
set_option maxRecDepth 100000 in
theorem roundK3 (u : Nat → Value) (A : Option Addr) (c : Nat) (L : List (List Int)) (i : Nat) (hi : i < 3) (hc : L.length ≤ c) (hL : L.length ≤ 4611686018427387904) (w W : World) (hC : CC w A L) (hB : ∀ x ∈ L, Bys x) (hs : tot L ≤ 100005) (g : Nat) (bv : Value) (d : Dsk) (T M : Nat) (t : List Int) (H : Dk w W g bv d) (hJ : KJ d L T M t)
    (Q : Exit → Act → World → Prop)
    (hQ : ∀ a' W' gl' bv' d', Fm 151 a' → sl a' 0 = .slice A L.length c → sl a' 10 = .pointer (some ⟨g, 0, none⟩) → sl a' 11 = .pointer (some ⟨gl', 0, none⟩) → sl a' 14 = .int .i64 (M : Int) → sl a' 17 = .int .i64 ((i : Int) + 1) → Lk w W' gl' g bv' d' → KJ d' L M M [] → d'.dead = false → d'.set = false → -1 ≤ d'.writes → d'.writes ≤ 0 → Q .normal a' W') :
    Code.wp Try.prog (bodyN Try.f4 2) Q ⟨#[.slice A L.length c, u 1, u 2, u 3, u 4, u 5, u 6, u 7, u 8, u 9, .pointer (some ⟨g, 0, none⟩), u 11, u 12, u 13, .int .i64 (T : Int), u 15, u 16, .int .i64 (i : Int), u 18, u 19, u 20, u 21, u 22, u 23, u 24, u 25, u 26, u 27, u 28, u 29, u 30, u 31, u 32, u 33, u 34, u 35, u 36, u 37, u 38, u 39, u 40, u 41, u 42, u 43, u 44, u 45, u 46, u 47, u 48, u 49, u 50, u 51, u 52, u 53, u 54, u 55, u 56, u 57, u 58, u 59, u 60, u 61, u 62, u 63, u 64, u 65, u 66, u 67, u 68, u 69, u 70, u 71, u 72, u 73, u 74, u 75, u 76, u 77, u 78, u 79, u 80, u 81, u 82, u 83, u 84, u 85, u 86, u 87, u 88, u 89, u 90, u 91, u 92, u 93, u 94, u 95, u 96, u 97, u 98, u 99, u 100, u 101, u 102, u 103, u 104, u 105, u 106, u 107, u 108, u 109, u 110, u 111, u 112, u 113, u 114, u 115, u 116, u 117, u 118, u 119, u 120, u 121, u 122, u 123, u 124, u 125, u 126, u 127, u 128, u 129, u 130, u 131, u 132, u 133, u 134, u 135, u 136, u 137, u 138, u 139, u 140, u 141, u 142, u 143, u 144, u 145, u 146, u 147, u 148, u 149, u 150], []⟩ W := by
  obtain ⟨d', hop, hb', hdd, hset, hroom, hw1, hw2⟩ := kp_open d L T M t hJ hB hs
  have hnext := kp_next L d' M hJ.ln hb' hroom hB hs
  have hlo := hJ.lo
  have hhi := hJ.hi
  have hln := hJ.ln
  have hlenM : (L.take M).length = M := by rw [List.length_take]; omega
  obtain ⟨n, hn⟩ : ∃ n, L.length = n := ⟨_, rfl⟩
  have hmb : Bys d.mend.bytes := by show Bys d.bytes; rw [hJ.bytes]; exact hJ.bys
  have HH := Aside0.mk (And.intro H (And.intro hQ (And.intro hop (And.intro hnext (And.intro hdd (And.intro hset (And.intro hC (And.intro hB (And.intro hmb (And.intro hlenM (And.intro hw1 hw2)))))))))))
  obtain ⟨i0, hi0, _, hsz, _⟩ := info_parts (show (Try.prog.info? 22).map (fun i => (i.zero, i.size, i.bytes)) = some (some (.slice none 0 0), 1, 24) by kernel_rfl)
  have hcut := cut_to (P := Try.prog) 24 22 .i64 Try.underlying24 hi0 A L.length c (M : Int) (by omega) (by omega) hc
  rw [Int.toNat_natCast] at hcut
  have b0 : decide ((i : Int) < 3) = true := decide_eq_true (by omega)
  have b1 : decide ((M : Int) < (T : Int)) = false := decide_eq_false (by omega)
  have b2 : decide ((T : Int) + 1 < (M : Int)) = false := decide_eq_false (by omega)
  have b3 : decide ((L.length : Int) < (M : Int)) = false := decide_eq_false (by omega)
  have n1 : ¬ M < T := by omega
  have n3 : ¬ L.length < M := by omega
  have b6 : wrap64 ((T : Int) + 1) = (T : Int) + 1 := by unfold wrap64; omega
  have B5 := Aside0.mk (show wrap64 ((i : Int) + 1) = (i : Int) + 1 by clear b6; unfold wrap64; omega)
  clear H hQ hop hb' hnext hdd hset hC hB hmb hJ hlo hhi hln hlenM hn hroom hi hw1 hw2 hs
  conv => arg 2; whnf
  go_wp2_with (fail)
  refine (mend_calls g w.heap.size bv d W HH.out.1.at').mono ?_
  rintro e w2 ⟨rfl, hf2, hD2⟩
  have H2 := Aside0.mk (HH.out.1.call1 hf2 hD2)
  clear hf2 hD2
  go_wp2_with (fail)
  have ho := open_calls g w.heap.size bv d.mend w2 H2.out.at' H2.out.F.size HH.out.2.2.2.2.2.2.2.2.1 (by show (-4611686018427387904 : Int) ≤ 0; decide) (by show (0 : Int) ≤ 9223372036854775807; decide)
  rw [HH.out.2.2.1] at ho
  refine ho.mono ?_
  clear ho
  rintro e w3 ⟨pv, rv, A3, c3, rfl, rfl, hc3, hC3, hp1, hp2, hf3, bv3, hD3, hn3, ha3⟩
  obtain ⟨gl, rfl, hgl, hLg⟩ := hp2 rfl
  have hl3 := HH.out.2.2.2.2.2.2.2.2.2.1
  have hC3 : CC w3 A3 (L.take M) := hC3
  simp only at hc3
  rw [hl3] at hc3 ⊢
  have H3 := Aside0.mk (And.intro (Lk.mk (H2.out.call hf3 hD3) hLg (ha3 gl rfl) (Nat.le_trans H2.out.F.size hgl)) (And.intro hC3 hc3))
  clear H2 hC3 hp1 hp2 hf3 hD3 hn3 ha3 hgl hLg hl3 hc3
  go_wp2_with (fail)
  have hsl := samelist_calls (L.take M) (L.take M) A3 c3 A c w3 H3.out.2.1 (by rw [HH.out.2.2.2.2.2.2.2.2.2.1]; exact H3.out.2.2) ((HH.out.2.2.2.2.2.2.1.fr H3.out.1.dk.F).take M) (by rw [HH.out.2.2.2.2.2.2.2.2.2.1]; have := (HH.out.2.2.2.1).ln; omega) (fun x hx => HH.out.2.2.2.2.2.2.2.1 x (List.mem_of_mem_take hx)) (fun x hx => HH.out.2.2.2.2.2.2.2.1 x (List.mem_of_mem_take hx))
  rw [HH.out.2.2.2.2.2.2.2.2.2.1, decide_eq_true rfl] at hsl
  refine hsl.mono ?_
  clear hsl
  rintro e w4 ⟨rfl, hb4⟩
  have H4 := Aside0.mk (H3.out.1.below hb4)
  clear H3 hb4 hcut b6
  have b5 := B5.out
  go_wp2
  exact HH.out.2.1 _ _ gl bv3 d' ⟨rfl, rfl⟩ rfl rfl rfl rfl (congrArg (Value.int .i64) B5.out) H4.out HH.out.2.2.2.1 HH.out.2.2.2.2.1 HH.out.2.2.2.2.2.1 HH.out.2.2.2.2.2.2.2.2.2.2.1 HH.out.2.2.2.2.2.2.2.2.2.2.2
set_option maxHeartbeats 8000000 in
set_option maxRecDepth 100000 in
theorem exitK3 (u : Nat → Value) (w : World) (Q : Exit → Act → World → Prop) (hQ : ∀ a', Fm 151 a' → sl a' 10 = u 10 → sl a' 11 = u 11 → sl a' 14 = u 14 → Q (.exit 4) a' w) :
    Code.wp Try.prog (bodyN Try.f4 2) Q ⟨#[u 0, u 1, u 2, u 3, u 4, u 5, u 6, u 7, u 8, u 9, u 10, u 11, u 12, u 13, u 14, u 15, u 16, .int .i64 3, u 18, u 19, u 20, u 21, u 22, u 23, u 24, u 25, u 26, u 27, u 28, u 29, u 30, u 31, u 32, u 33, u 34, u 35, u 36, u 37, u 38, u 39, u 40, u 41, u 42, u 43, u 44, u 45, u 46, u 47, u 48, u 49, u 50, u 51, u 52, u 53, u 54, u 55, u 56, u 57, u 58, u 59, u 60, u 61, u 62, u 63, u 64, u 65, u 66, u 67, u 68, u 69, u 70, u 71, u 72, u 73, u 74, u 75, u 76, u 77, u 78, u 79, u 80, u 81, u 82, u 83, u 84, u 85, u 86, u 87, u 88, u 89, u 90, u 91, u 92, u 93, u 94, u 95, u 96, u 97, u 98, u 99, u 100, u 101, u 102, u 103, u 104, u 105, u 106, u 107, u 108, u 109, u 110, u 111, u 112, u 113, u 114, u 115, u 116, u 117, u 118, u 119, u 120, u 121, u 122, u 123, u 124, u 125, u 126, u 127, u 128, u 129, u 130, u 131, u 132, u 133, u 134, u 135, u 136, u 137, u 138, u 139, u 140, u 141, u 142, u 143, u 144, u 145, u 146, u 147, u 148, u 149, u 150], []⟩ w := by
  have HQ := Aside0.mk hQ
  clear hQ
  conv => arg 2; whnf
  go_wp2
  exact HQ.out _ ⟨rfl, rfl⟩ rfl rfl rfl
theorem loopK3 (A : Option Addr) (c : Nat) (L : List (List Int)) (hc : L.length ≤ c) (hL : L.length ≤ 4611686018427387904) (w : World) (hC : CC w A L) (hB : ∀ x ∈ L, Bys x) (hs : tot L ≤ 100005) (g : Nat)
    (Q : Exit → Act → World → Prop)
    (hQ : ∀ a' W gl bv d (M : Nat), Fm 151 a' → sl a' 10 = .pointer (some ⟨g, 0, none⟩) → sl a' 11 = .pointer (some ⟨gl, 0, none⟩) → sl a' 14 = .int .i64 (M : Int) → Lk w W gl g bv d → KJ d L M M [] → d.dead = false → d.set = false → -1 ≤ d.writes → d.writes ≤ 0 → Q (.exit 4) a' W)
    (a : Act) (W : World) (bv : Value) (d : Dsk) (T M : Nat) (t : List Int) (h : Fm 151 a ∧ sl a 0 = .slice A L.length c ∧ sl a 10 = .pointer (some ⟨g, 0, none⟩) ∧ sl a 14 = .int .i64 (T : Int) ∧ sl a 17 = .int .i64 0 ∧ Dk w W g bv d ∧ KJ d L T M t) : (Code.loop (bodyN Try.f4 2)).wp Try.prog Q a W := by
  refine wp_loop_up 3 (fun i a W => Fm 151 a ∧ sl a 0 = .slice A L.length c ∧ sl a 10 = .pointer (some ⟨g, 0, none⟩) ∧ sl a 17 = .int .i64 (i : Int) ∧ ∃ (bv : Value) (d : Dsk) (T M : Nat) (t : List Int), sl a 14 = .int .i64 (T : Int) ∧ Dk w W g bv d ∧ KJ d L T M t ∧ (0 < i → T = M ∧ t = [] ∧ d.dead = false ∧ d.set = false ∧ -1 ≤ d.writes ∧ d.writes ≤ 0 ∧ ∃ gl, sl a 11 = .pointer (some ⟨gl, 0, none⟩) ∧ Lk w W gl g bv d)) ?_ ?_
  · obtain ⟨h0, h1, h2, h3, h4, h5, h6⟩ := h
    exact ⟨h0, h1, h2, h4, bv, d, T, M, t, h3, h5, h6, fun h => by omega⟩
  rintro i a W hi ⟨hF, h0, h10, h17, bv, d, T, M, t, h14, hD, hJ, hlast⟩
  have ha := fm151 hF
  by_cases he : i = 3
  · subst he
    rw [h17] at ha
    rw [ha]
    obtain ⟨rfl, rfl, h1, h2, h3, h4, gl, h11, hLk⟩ := hlast (by omega)
    exact exitK3 (sl a) W _ fun a' b0 b1 b2 b3 => hQ _ _ gl bv d _ b0 (b1.trans h10) (b2.trans h11) (b3.trans h14) hLk hJ h1 h2 h3 h4
  · rw [h0, h10, h14, h17] at ha
    rw [ha]
    refine roundK3 (sl a) A c L i (by omega) hc hL w W hC hB hs g bv d T M t hD hJ _ ?_
    intro a' W' gl' bv' d' f0 f1 f2 f3 f4 f5 f6 f7 f8 f9 f10 f11
    exact ⟨by omega, f0, f1, f2, by rw [f5]; congr 1, bv', d', M, M, [], f4, f6.dk, f7, fun _ => ⟨rfl, rfl, f8, f9, f10, f11, gl', f3, f6⟩⟩
end Go.Proofs.Ytkkgjbafncmohaa.Sha
