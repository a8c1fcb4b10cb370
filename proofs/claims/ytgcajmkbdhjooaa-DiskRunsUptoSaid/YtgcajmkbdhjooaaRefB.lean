/-
  The document's disk: Write joined; Break, Mend, New.
-/
import Derived.Test.YtgcajmkbdhjooaaRefT
import Derived.Test.YtgcajmkbdhjooaaQx10
set_option linter.unusedVariables false
set_option linter.unusedSimpArgs false
namespace Go.Proofs.Ytgcajmkbdhjooaa.Sha
open Go.RowKit Go.Proofs.YtgcajmkbdhjooaaW.PrintWords Go.Proofs.YtgcajmkbdhjooaaW.PrintLast Go.Proofs.YtgcajmkbdhjooaaW.PrintMore Go.Proofs.Ytgcajmkbdhjooaa.Q Go.Proofs.Ytgcajmkbdhjooaa.Fr Go.Proofs.Ytgcajmkbdhjooaa.Oct

theorem Rdk.wr_dead (r : Rdk) (b nx : List Int) (all : Bool) (h : r.dead = true) : r.wr b nx all = (r, 115) := by
  unfold Rdk.wr; rw [if_pos h]
theorem Rdk.wr_full (r : Rdk) (b nx : List Int) (all : Bool) (h : r.dead = false) (h2 : r.room < (nx.length : Int)) : r.wr b nx all = (r, 113) := by
  unfold Rdk.wr; rw [if_neg (by rw [h]; decide), if_pos h2]
theorem Rdk.wr_tear (r : Rdk) (b nx : List Int) (all : Bool) (h : r.dead = false) (h2 : (nx.length : Int) ≤ r.room) (h3 : r.breaks = true) (h4 : r.writes = 0) : r.wr b nx all = ({ r with dead := true, bytes := if all = true then r.bytes else nx.take (r.bytes.length + clampN r.tear b.length) }, 115) := by
  unfold Rdk.wr; rw [if_neg (by rw [h]; decide), if_neg (by omega), if_pos ⟨h3, h4⟩]
theorem Rdk.wr_ok0 (r : Rdk) (b nx : List Int) (all : Bool) (h : r.dead = false) (h2 : (nx.length : Int) ≤ r.room) (h3 : r.breaks = false) : r.wr b nx all = ({ r with bytes := nx }, 0) := by
  unfold Rdk.wr; rw [if_neg (by rw [h]; decide), if_neg (by omega), if_neg (by rw [h3]; simp), if_neg (by rw [h3]; decide)]
theorem Rdk.wr_ok1 (r : Rdk) (b nx : List Int) (all : Bool) (h : r.dead = false) (h2 : (nx.length : Int) ≤ r.room) (h3 : r.breaks = true) (h4 : ¬ r.writes = 0) : r.wr b nx all = ({ r with writes := r.writes - 1, bytes := nx }, 0) := by
  unfold Rdk.wr; rw [if_neg (by rw [h]; decide), if_neg (by omega), if_neg (fun e => h4 e.2), if_pos h3]
theorem rwrite_all (r : Rdk) (v : Value) (A : Option Addr) (c : Nat) (b : List Int) (w : World) (hv : Lies w v r.bytes) (hy : Rd w A b) (hc : b.length ≤ c) (hl : r.bytes.length + b.length ≤ 140737488355328) (hw : -4611686018427387904 ≤ r.writes) (hw2 : r.writes ≤ 9223372036854775807) :
    Calls Try.prog 27 #[.agg (rcs v r), .slice A b.length c, .bool true] w fun e w' => ∃ v', e = .returned (.tuple #[.agg (rcs v' (r.write b true).1), .int .i64 (r.write b true).2]) ∧ Lies w' v' (r.write b true).1.bytes ∧ Near w.heap.size w' v v' ∧ Below w.heap.size w w' := by
  obtain ⟨bytes, room, dead, breaks, writes, tear⟩ := r
  obtain ⟨Av, cv, rfl, hcv, hr⟩ := hv
  have hnx : (b.length : Int) = (b.length : Int) := by simp
  have go : ∀ (r' : Rdk) (er : Int), Rdk.wr ⟨bytes, room, dead, breaks, writes, tear⟩ b b true = (r', er) → (∀ v', rcs v' r' = rcs v' r') → Calls Try.prog 27 #[.agg (rcs (.slice Av bytes.length cv) ⟨bytes, room, dead, breaks, writes, tear⟩), .slice A b.length c, .bool true] w (fun e w' => ∃ v', e = .returned (.tuple #[.agg (rcs v' r'), .int .i64 er]) ∧ Lies w' v' r'.bytes ∧ Near w.heap.size w' (.slice Av bytes.length cv) v' ∧ Below w.heap.size w w') → Calls Try.prog 27 #[.agg (rcs (.slice Av bytes.length cv) ⟨bytes, room, dead, breaks, writes, tear⟩), .slice A b.length c, .bool true] w (fun e w' => ∃ v', e = .returned (.tuple #[.agg (rcs v' (Rdk.write ⟨bytes, room, dead, breaks, writes, tear⟩ b true).1), .int .i64 (Rdk.write ⟨bytes, room, dead, breaks, writes, tear⟩ b true).2]) ∧ Lies w' v' (Rdk.write ⟨bytes, room, dead, breaks, writes, tear⟩ b true).1.bytes ∧ Near w.heap.size w' (.slice Av bytes.length cv) v' ∧ Below w.heap.size w w') := by
    intro r' er e _ h
    have e' : Rdk.write ⟨bytes, room, dead, breaks, writes, tear⟩ b true = (r', er) := by rw [← e]; rfl
    rw [e']
    exact h
  by_cases hd : dead = true
  · subst hd
    exact go _ _ (Rdk.wr_dead ⟨bytes, room, true, breaks, writes, tear⟩ b b true rfl) (fun _ => rfl) (rwrite_all_dead bytes room true breaks writes tear Av cv A c b w hr hcv hy hc hl hw hw2 rfl)
  have hd : dead = false := by simpa using hd
  subst hd
  by_cases hf : room < (b.length : Int)
  · exact go _ _ (Rdk.wr_full ⟨bytes, room, false, breaks, writes, tear⟩ b b true rfl (by rw [hnx]; exact hf)) (fun _ => rfl) (rwrite_all_full bytes room false breaks writes tear Av cv A c b w hr hcv hy hc hl hw hw2 rfl hf)
  have hf : (b.length : Int) ≤ room := Int.not_lt.1 hf
  have hf' : (b.length : Int) ≤ room := by rw [hnx]; exact hf
  by_cases hb : breaks = false
  · subst hb
    exact go _ _ (Rdk.wr_ok0 ⟨bytes, room, false, false, writes, tear⟩ b b true rfl hf' rfl) (fun _ => rfl) (rwrite_all_ok0 bytes room false false writes tear Av cv A c b w hr hcv hy hc hl hw hw2 rfl hf rfl)
  have hb : breaks = true := by simpa using hb
  subst hb
  by_cases hw0 : writes = 0
  · subst hw0
    by_cases ht : tear < 0
    · exact go _ _ (Rdk.wr_tear ⟨bytes, room, false, true, 0, tear⟩ b b true rfl hf' rfl rfl) (fun _ => rfl) (rwrite_all_tear_neg bytes room false true 0 tear Av cv A c b w hr hcv hy hc hl hw hw2 rfl hf rfl rfl ht)
    by_cases ht2 : (b.length : Int) < tear
    · exact go _ _ (Rdk.wr_tear ⟨bytes, room, false, true, 0, tear⟩ b b true rfl hf' rfl rfl) (fun _ => rfl) (rwrite_all_tear_over bytes room false true 0 tear Av cv A c b w hr hcv hy hc hl hw hw2 rfl hf rfl rfl ht2)
    · exact go _ _ (Rdk.wr_tear ⟨bytes, room, false, true, 0, tear⟩ b b true rfl hf' rfl rfl) (fun _ => rfl) (rwrite_all_tear_mid bytes room false true 0 tear Av cv A c b w hr hcv hy hc hl hw hw2 rfl hf rfl rfl ⟨by omega, by omega⟩)
  exact go _ _ (Rdk.wr_ok1 ⟨bytes, room, false, true, writes, tear⟩ b b true rfl hf' rfl hw0) (fun _ => rfl) (rwrite_all_ok1 bytes room false true writes tear Av cv A c b w hr hcv hy hc hl hw hw2 rfl hf rfl hw0)
theorem rwrite_app (r : Rdk) (v : Value) (A : Option Addr) (c : Nat) (b : List Int) (w : World) (hv : Lies w v r.bytes) (hy : Rd w A b) (hc : b.length ≤ c) (hl : r.bytes.length + b.length ≤ 140737488355328) (hw : -4611686018427387904 ≤ r.writes) (hw2 : r.writes ≤ 9223372036854775807) :
    Calls Try.prog 27 #[.agg (rcs v r), .slice A b.length c, .bool false] w fun e w' => ∃ v', e = .returned (.tuple #[.agg (rcs v' (r.write b false).1), .int .i64 (r.write b false).2]) ∧ Lies w' v' (r.write b false).1.bytes ∧ Near w.heap.size w' v v' ∧ Below w.heap.size w w' := by
  obtain ⟨bytes, room, dead, breaks, writes, tear⟩ := r
  obtain ⟨Av, cv, rfl, hcv, hr⟩ := hv
  have hnx : ((bytes ++ b).length : Int) = ((bytes.length + b.length : Nat) : Int) := by simp
  have go : ∀ (r' : Rdk) (er : Int), Rdk.wr ⟨bytes, room, dead, breaks, writes, tear⟩ b (bytes ++ b) false = (r', er) → (∀ v', rcs v' r' = rcs v' r') → Calls Try.prog 27 #[.agg (rcs (.slice Av bytes.length cv) ⟨bytes, room, dead, breaks, writes, tear⟩), .slice A b.length c, .bool false] w (fun e w' => ∃ v', e = .returned (.tuple #[.agg (rcs v' r'), .int .i64 er]) ∧ Lies w' v' r'.bytes ∧ Near w.heap.size w' (.slice Av bytes.length cv) v' ∧ Below w.heap.size w w') → Calls Try.prog 27 #[.agg (rcs (.slice Av bytes.length cv) ⟨bytes, room, dead, breaks, writes, tear⟩), .slice A b.length c, .bool false] w (fun e w' => ∃ v', e = .returned (.tuple #[.agg (rcs v' (Rdk.write ⟨bytes, room, dead, breaks, writes, tear⟩ b false).1), .int .i64 (Rdk.write ⟨bytes, room, dead, breaks, writes, tear⟩ b false).2]) ∧ Lies w' v' (Rdk.write ⟨bytes, room, dead, breaks, writes, tear⟩ b false).1.bytes ∧ Near w.heap.size w' (.slice Av bytes.length cv) v' ∧ Below w.heap.size w w') := by
    intro r' er e _ h
    have e' : Rdk.write ⟨bytes, room, dead, breaks, writes, tear⟩ b false = (r', er) := by rw [← e]; rfl
    rw [e']
    exact h
  by_cases hd : dead = true
  · subst hd
    exact go _ _ (Rdk.wr_dead ⟨bytes, room, true, breaks, writes, tear⟩ b (bytes ++ b) false rfl) (fun _ => rfl) (rwrite_app_dead bytes room true breaks writes tear Av cv A c b w hr hcv hy hc hl hw hw2 rfl)
  have hd : dead = false := by simpa using hd
  subst hd
  by_cases hf : room < ((bytes.length + b.length : Nat) : Int)
  · exact go _ _ (Rdk.wr_full ⟨bytes, room, false, breaks, writes, tear⟩ b (bytes ++ b) false rfl (by rw [hnx]; exact hf)) (fun _ => rfl) (rwrite_app_full bytes room false breaks writes tear Av cv A c b w hr hcv hy hc hl hw hw2 rfl hf)
  have hf : ((bytes.length + b.length : Nat) : Int) ≤ room := Int.not_lt.1 hf
  have hf' : ((bytes ++ b).length : Int) ≤ room := by rw [hnx]; exact hf
  by_cases hb : breaks = false
  · subst hb
    exact go _ _ (Rdk.wr_ok0 ⟨bytes, room, false, false, writes, tear⟩ b (bytes ++ b) false rfl hf' rfl) (fun _ => rfl) (rwrite_app_ok0 bytes room false false writes tear Av cv A c b w hr hcv hy hc hl hw hw2 rfl hf rfl)
  have hb : breaks = true := by simpa using hb
  subst hb
  by_cases hw0 : writes = 0
  · subst hw0
    by_cases ht : tear < 0
    · have hm : clampN tear b.length = 0 := by unfold clampN; omega
      refine go _ _ (Rdk.wr_tear ⟨bytes, room, false, true, 0, tear⟩ b (bytes ++ b) false rfl hf' rfl rfl) (fun _ => rfl) ?_
      simp only [Bool.false_eq_true, if_false]
      rw [hm]
      exact rwrite_app_tear_neg bytes room false true 0 tear Av cv A c b w hr hcv hy hc hl hw hw2 rfl hf rfl rfl ht
    by_cases ht2 : (b.length : Int) < tear
    · have hm : clampN tear b.length = b.length := by unfold clampN; omega
      refine go _ _ (Rdk.wr_tear ⟨bytes, room, false, true, 0, tear⟩ b (bytes ++ b) false rfl hf' rfl rfl) (fun _ => rfl) ?_
      simp only [Bool.false_eq_true, if_false]
      rw [hm]
      exact rwrite_app_tear_over bytes room false true 0 tear Av cv A c b w hr hcv hy hc hl hw hw2 rfl hf rfl rfl ht2
    · have hm : clampN tear b.length = tear.toNat := by unfold clampN; omega
      refine go _ _ (Rdk.wr_tear ⟨bytes, room, false, true, 0, tear⟩ b (bytes ++ b) false rfl hf' rfl rfl) (fun _ => rfl) ?_
      simp only [Bool.false_eq_true, if_false]
      rw [hm]
      exact rwrite_app_tear_mid bytes room false true 0 tear Av cv A c b w hr hcv hy hc hl hw hw2 rfl hf rfl rfl ⟨by omega, by omega⟩
  exact go _ _ (Rdk.wr_ok1 ⟨bytes, room, false, true, writes, tear⟩ b (bytes ++ b) false rfl hf' rfl hw0) (fun _ => rfl) (rwrite_app_ok1 bytes room false true writes tear Av cv A c b w hr hcv hy hc hl hw hw2 rfl hf rfl hw0)
/-- The disk that is to break; the disk mended. -/
def Rdk.brk (r : Rdk) (n tear : Int) : Rdk := { r with breaks := true, writes := max 0 n, tear := tear }
def Rdk.mend (r : Rdk) : Rdk := { r with dead := false, breaks := false, writes := 0, tear := 0 }
end Go.Proofs.Ytgcajmkbdhjooaa.Sha
