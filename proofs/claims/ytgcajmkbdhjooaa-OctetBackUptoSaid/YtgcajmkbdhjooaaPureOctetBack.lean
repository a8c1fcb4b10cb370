/- The law OctetBack, its plain part: a number's bytes between any others are read back, and what is read as a number are its own bytes. -/
import Derived.Test.YtgcajmkbdhjooaaQx3
import Derived.Test.YtgcajmkbdhjooaaOct2
namespace Go.Proofs.Ytgcajmkbdhjooaa.Pure
open Go.RowKit Go.Proofs.Ytgcajmkbdhjooaa.Q Go.Proofs.YtgcajmkbdhjooaaW.PrintWords Go.Proofs.YtgcajmkbdhjooaaW.PrintLast Go.Proofs.Ytgcajmkbdhjooaa.Oct

theorem back_rest (a0 : Int) (l1 l2 : List Int) (h1 : Bys l1) (h2 : Bys l2) (hs : l1.length + l2.length ≤ 1048576) : catenarylaw01_OctetBack.j0 40 a0 l1 l2 = some true := by
  simp only [catenarylaw01_OctetBack.j0]
  rw [int_f a0 39 (by omega)]
  simp only [Option.bind_some]
  have h5 := intA_len a0
  by_cases h : 0 ≤ a0 ∧ a0 ≤ 2147483647
  · have e : (intA a0).2 = 0 := by rw [intA_yes h]
    rw [if_pos e, if_pos (by simp; omega)]
    simp only [Option.bind_some, List.nil_append]
    rw [if_pos (by omega), if_pos (by rw [List.length_append]; omega), get_f _ _ (Bys.append (Bys.append h1 (intA_bys a0)) h2) (by simp only [List.length_append]; omega) 39 (by omega)]
    simp only [Option.bind_some]
    have hd : ((l1 ++ (intA a0).1) ++ l2).drop l1.length = encI a0.toNat ++ l2 := by rw [List.append_assoc, List.drop_left, intA_yes h]
    have eg : getA ((l1 ++ (intA a0).1) ++ l2) (l1.length : Int) = (a0, (l1.length : Int) + ((encI a0.toNat).length : Int), 0) := by
      rw [getA, if_pos (by simp only [List.length_append]; omega), Int.toNat_natCast, hd, dec_enc a0.toNat (by omega) l2]
      simp only []
      rw [show ((a0.toNat : Nat) : Int) = a0 by omega]
    rw [eg]
    simp only []
    rw [if_pos trivial, if_pos trivial, intA_yes h]
    have h6 := encI_five a0.toNat (by omega)
    simp only []
    rw [w64 (by omega) (by omega), if_pos rfl, decide_eq_true (by omega)]
  · have e : (intA a0).2 = 14 := by rw [intA_no h]
    rw [e, if_neg (by decide), if_pos rfl]
    by_cases h0 : a0 < 0
    · rw [if_pos h0]
    · rw [if_neg h0, decide_eq_true (by omega)]

theorem OctetBack (a0 : Int) (l1 l2 : List Int) (_ : (Lit.int .i64 a0).wf = true) (h1 : Bys l1) (h2 : Bys l2) (hs : 1 + ((l1.length + 1) + (l2.length + 1)) ≤ 1048576) : ∃ k, catenarylaw01_OctetBack.f k a0 l1 l2 = some true := by
  refine ⟨40, ?_⟩
  have hr := back_rest a0 l1 l2 h1 h2 (by omega)
  unfold catenarylaw01_OctetBack.f
  rw [alive_f 40 (by omega)]
  simp only [Option.bind_some]
  rw [if_pos trivial, if_pos (by simp; omega)]
  simp only [List.nil_append]
  rw [get_f l2 0 h2 (by omega) 40 (by omega)]
  simp only [Option.bind_some]
  by_cases e : (getA l2 0).2.2 = 0
  · rw [if_pos e]
    rw [getA, if_pos (by omega)] at e ⊢
    simp only [Int.toNat_zero, List.drop_zero] at e ⊢
    cases hd : decGo 0 0 l2 with
    | none => rw [hd] at e; cases e
    | some nc =>
      obtain ⟨n, c⟩ := nc
      obtain ⟨hn, hc, hl⟩ := dec_sound h2 hd
      have hlen : c ≤ l2.length := by
        have := congrArg List.length hl
        simp only [List.length_append, List.length_drop] at this
        omega
      have hp := encI_pos n
      simp only []
      rw [int_f _ 40 (by omega), intA_yes (by omega)]
      simp only [Option.bind_some]
      rw [if_pos trivial, if_neg (by omega), if_neg (by omega), if_pos (by omega), if_pos (by omega)]
      have ht : l2.take ((0 : Int) + (c : Int)).toNat = encI n := by
        rw [show ((0 : Int) + (c : Int)).toNat = c by omega, hl, hc, List.take_left]
      rw [ht, Int.toNat_natCast, same_self]
      simp only [Option.bind_some]
      rw [if_pos trivial]
      exact hr
  · rw [if_neg e]
    exact hr

end Go.Proofs.Ytgcajmkbdhjooaa.Pure
