/- A data level over the model, and the program's functions over it: joined by program. No statement here. -/
import Derived.Test.YtfbhdkpmipgmbaaMmPe
import Derived.Test.YtfbhdkpmipgmbaaMmPd
section
/- Meaning: whether policies fit the fields; what is right. -/
namespace Go.MM
open Go Go.DL Go.Proofs
set_option maxRecDepth 100000
set_option maxHeartbeats 8000000

/-- One part of a predicate, by its cells. -/
def fitP (l : List Fd) : RP → Int
  | .mk k f n m _ => if k = 3 ∨ k = 4 ∨ k = 5 then (match findF l f with
      | none => 4
      | some F => if (if k = 5 then m else n) > ((2 ^ F.w - 1 : Nat) : Int) ∨ (k = 4 ∧ m > F.w) then 1 else 0) else 0

theorem fields_w {l : List Fd} (hl : LOk l) {s : ByteArray} {F : Fd} (h : findF l s = some F) : F.w ≤ 16 := by
  have := (hl.find h).w2; omega

theorem t92 (l : List Fd) (hl : LOk l) (r : RP) : DCalls Try.prog 92 [fds l, .agg (cellsR r)] (I (fitP l r)) := by
  obtain ⟨k, f, n, m, a⟩ := r
  refine dcalls_low (rs := [.tmp 4]) mixed Try.func92 l92 rfl rfl rfl (r := [.int _ _]) (Nat.le_of_ble_eq_true rfl) ?_
  have h51 := t51 l f hl.len
  simp only [fitP]
  by_cases hk : k = 3 ∨ k = 4 ∨ k = 5
  · rw [if_pos hk]
    unfold findT at h51
    cases hF : findF l f with
    | none =>
      rw [hF] at h51
      simp only at h51 ⊢
      rcases hk with rfl | rfl | rfl <;> repeat' ((conv => whnf); first | (exact trivial) | (refine k_call _ (h51) ?_) | (refine now_T ?_) | (refine now_E1 (by first | omega | (simp; done) | (simp; omega) | fail) ?_) | (refine now_E0 (by first | omega | (simp; done) | (simp; omega) | fail) ?_) | (refine now_N1 (by first | omega | (simp; done) | (simp; omega) | fail) ?_) | (refine now_N0 (by first | omega | (simp; done) | (simp; omega) | fail) ?_) | (refine now_D1 (by first | omega | (simp; done) | (simp; omega) | fail) ?_) | (refine now_D0 (by first | omega | (simp; done) | (simp; omega) | fail) ?_) | (refine now_E (fun hq => ?_) (fun hq => ?_)) | (refine now_N (fun hq => ?_) (fun hq => ?_)) | (refine now_D (fun hq => ?_) (fun hq => ?_)) | (refine rb (x := true) (by first | rfl | (simp; done) | (simp; omega) | (simp [*]; done) | (simp [*]; omega) | fail) ?_) | (refine rb (x := false) (by first | rfl | (simp; done) | (simp; omega) | (simp [*]; done) | (simp [*]; omega) | fail) ?_) | (refine rb (by first | rfl | (simp; done) | (simp; omega) | (simp [*]; done) | (simp [*]; omega) | fail) ?_) | (refine ri (by first | rfl | omega | (rw [wrap_id] <;> omega) | (simp; omega) | (simp [*]; done) | fail) ?_) | (refine And.intro (by first | exact trivial | rfl | decide | exact Nat.le_of_ble_eq_true rfl | assumption | exact ⟨rfl, Nat.le_of_ble_eq_true rfl⟩ | exact ⟨trivial, rfl⟩ | exact ⟨⟨trivial, rfl⟩, rfl⟩ | omega | (simp; done) | (simp; omega) | (simp [*]; done) | fail) ?_) | (fail))
    | some F =>
      rw [hF] at h51
      simp only at h51 ⊢
      have hw := fields_w hl hF
      have h66 := t66 F (hl.find hF)
      obtain ⟨s, fa, w⟩ := F
      simp only at hw h66 ⊢
      generalize hM : ((2 ^ w - 1 : Nat) : Int) = M at *
      rcases hk with rfl | rfl | rfl
      · by_cases c : n > M
        · rw [if_pos (by simp; omega)]; repeat' ((conv => whnf); first | (exact trivial) | (refine k_call _ (h51) ?_) | (refine k_call _ (h66) ?_) | (refine now_T ?_) | (refine now_E1 (by first | omega | (simp; done) | (simp; omega) | fail) ?_) | (refine now_E0 (by first | omega | (simp; done) | (simp; omega) | fail) ?_) | (refine now_N1 (by first | omega | (simp; done) | (simp; omega) | fail) ?_) | (refine now_N0 (by first | omega | (simp; done) | (simp; omega) | fail) ?_) | (refine now_D1 (by first | omega | (simp; done) | (simp; omega) | fail) ?_) | (refine now_D0 (by first | omega | (simp; done) | (simp; omega) | fail) ?_) | (refine now_E (fun hq => ?_) (fun hq => ?_)) | (refine now_N (fun hq => ?_) (fun hq => ?_)) | (refine now_D (fun hq => ?_) (fun hq => ?_)) | (refine rb (x := true) (by first | rfl | (simp; done) | (simp; omega) | (simp [*]; done) | (simp [*]; omega) | fail) ?_) | (refine rb (x := false) (by first | rfl | (simp; done) | (simp; omega) | (simp [*]; done) | (simp [*]; omega) | fail) ?_) | (refine rb (by first | rfl | (simp; done) | (simp; omega) | (simp [*]; done) | (simp [*]; omega) | fail) ?_) | (refine ri (by first | rfl | omega | (rw [wrap_id] <;> omega) | (simp; omega) | (simp [*]; done) | fail) ?_) | (refine And.intro (by first | exact trivial | rfl | decide | exact Nat.le_of_ble_eq_true rfl | assumption | exact ⟨rfl, Nat.le_of_ble_eq_true rfl⟩ | exact ⟨trivial, rfl⟩ | exact ⟨⟨trivial, rfl⟩, rfl⟩ | omega | (simp; done) | (simp; omega) | (simp [*]; done) | fail) ?_) | (fail))
        · rw [if_neg (by simp; omega)]; repeat' ((conv => whnf); first | (exact trivial) | (refine k_call _ (h51) ?_) | (refine k_call _ (h66) ?_) | (refine now_T ?_) | (refine now_E1 (by first | omega | (simp; done) | (simp; omega) | fail) ?_) | (refine now_E0 (by first | omega | (simp; done) | (simp; omega) | fail) ?_) | (refine now_N1 (by first | omega | (simp; done) | (simp; omega) | fail) ?_) | (refine now_N0 (by first | omega | (simp; done) | (simp; omega) | fail) ?_) | (refine now_D1 (by first | omega | (simp; done) | (simp; omega) | fail) ?_) | (refine now_D0 (by first | omega | (simp; done) | (simp; omega) | fail) ?_) | (refine now_E (fun hq => ?_) (fun hq => ?_)) | (refine now_N (fun hq => ?_) (fun hq => ?_)) | (refine now_D (fun hq => ?_) (fun hq => ?_)) | (refine rb (x := true) (by first | rfl | (simp; done) | (simp; omega) | (simp [*]; done) | (simp [*]; omega) | fail) ?_) | (refine rb (x := false) (by first | rfl | (simp; done) | (simp; omega) | (simp [*]; done) | (simp [*]; omega) | fail) ?_) | (refine rb (by first | rfl | (simp; done) | (simp; omega) | (simp [*]; done) | (simp [*]; omega) | fail) ?_) | (refine ri (by first | rfl | omega | (rw [wrap_id] <;> omega) | (simp; omega) | (simp [*]; done) | fail) ?_) | (refine And.intro (by first | exact trivial | rfl | decide | exact Nat.le_of_ble_eq_true rfl | assumption | exact ⟨rfl, Nat.le_of_ble_eq_true rfl⟩ | exact ⟨trivial, rfl⟩ | exact ⟨⟨trivial, rfl⟩, rfl⟩ | omega | (simp; done) | (simp; omega) | (simp [*]; done) | fail) ?_) | (fail))
      · by_cases c : n > M
        · rw [if_pos (by simp; omega)]; repeat' ((conv => whnf); first | (exact trivial) | (refine k_call _ (h51) ?_) | (refine k_call _ (h66) ?_) | (refine now_T ?_) | (refine now_E1 (by first | omega | (simp; done) | (simp; omega) | fail) ?_) | (refine now_E0 (by first | omega | (simp; done) | (simp; omega) | fail) ?_) | (refine now_N1 (by first | omega | (simp; done) | (simp; omega) | fail) ?_) | (refine now_N0 (by first | omega | (simp; done) | (simp; omega) | fail) ?_) | (refine now_D1 (by first | omega | (simp; done) | (simp; omega) | fail) ?_) | (refine now_D0 (by first | omega | (simp; done) | (simp; omega) | fail) ?_) | (refine now_E (fun hq => ?_) (fun hq => ?_)) | (refine now_N (fun hq => ?_) (fun hq => ?_)) | (refine now_D (fun hq => ?_) (fun hq => ?_)) | (refine rb (x := true) (by first | rfl | (simp; done) | (simp; omega) | (simp [*]; done) | (simp [*]; omega) | fail) ?_) | (refine rb (x := false) (by first | rfl | (simp; done) | (simp; omega) | (simp [*]; done) | (simp [*]; omega) | fail) ?_) | (refine rb (by first | rfl | (simp; done) | (simp; omega) | (simp [*]; done) | (simp [*]; omega) | fail) ?_) | (refine ri (by first | rfl | omega | (rw [wrap_id] <;> omega) | (simp; omega) | (simp [*]; done) | fail) ?_) | (refine And.intro (by first | exact trivial | rfl | decide | exact Nat.le_of_ble_eq_true rfl | assumption | exact ⟨rfl, Nat.le_of_ble_eq_true rfl⟩ | exact ⟨trivial, rfl⟩ | exact ⟨⟨trivial, rfl⟩, rfl⟩ | omega | (simp; done) | (simp; omega) | (simp [*]; done) | fail) ?_) | (fail))
        · by_cases d : m > (w : Int)
          · rw [if_pos (by simp; omega)]; repeat' ((conv => whnf); first | (exact trivial) | (refine k_call _ (h51) ?_) | (refine k_call _ (h66) ?_) | (refine now_T ?_) | (refine now_E1 (by first | omega | (simp; done) | (simp; omega) | fail) ?_) | (refine now_E0 (by first | omega | (simp; done) | (simp; omega) | fail) ?_) | (refine now_N1 (by first | omega | (simp; done) | (simp; omega) | fail) ?_) | (refine now_N0 (by first | omega | (simp; done) | (simp; omega) | fail) ?_) | (refine now_D1 (by first | omega | (simp; done) | (simp; omega) | fail) ?_) | (refine now_D0 (by first | omega | (simp; done) | (simp; omega) | fail) ?_) | (refine now_E (fun hq => ?_) (fun hq => ?_)) | (refine now_N (fun hq => ?_) (fun hq => ?_)) | (refine now_D (fun hq => ?_) (fun hq => ?_)) | (refine rb (x := true) (by first | rfl | (simp; done) | (simp; omega) | (simp [*]; done) | (simp [*]; omega) | fail) ?_) | (refine rb (x := false) (by first | rfl | (simp; done) | (simp; omega) | (simp [*]; done) | (simp [*]; omega) | fail) ?_) | (refine rb (by first | rfl | (simp; done) | (simp; omega) | (simp [*]; done) | (simp [*]; omega) | fail) ?_) | (refine ri (by first | rfl | omega | (rw [wrap_id] <;> omega) | (simp; omega) | (simp [*]; done) | fail) ?_) | (refine And.intro (by first | exact trivial | rfl | decide | exact Nat.le_of_ble_eq_true rfl | assumption | exact ⟨rfl, Nat.le_of_ble_eq_true rfl⟩ | exact ⟨trivial, rfl⟩ | exact ⟨⟨trivial, rfl⟩, rfl⟩ | omega | (simp; done) | (simp; omega) | (simp [*]; done) | fail) ?_) | (fail))
          · rw [if_neg (by simp; omega)]; repeat' ((conv => whnf); first | (exact trivial) | (refine k_call _ (h51) ?_) | (refine k_call _ (h66) ?_) | (refine now_T ?_) | (refine now_E1 (by first | omega | (simp; done) | (simp; omega) | fail) ?_) | (refine now_E0 (by first | omega | (simp; done) | (simp; omega) | fail) ?_) | (refine now_N1 (by first | omega | (simp; done) | (simp; omega) | fail) ?_) | (refine now_N0 (by first | omega | (simp; done) | (simp; omega) | fail) ?_) | (refine now_D1 (by first | omega | (simp; done) | (simp; omega) | fail) ?_) | (refine now_D0 (by first | omega | (simp; done) | (simp; omega) | fail) ?_) | (refine now_E (fun hq => ?_) (fun hq => ?_)) | (refine now_N (fun hq => ?_) (fun hq => ?_)) | (refine now_D (fun hq => ?_) (fun hq => ?_)) | (refine rb (x := true) (by first | rfl | (simp; done) | (simp; omega) | (simp [*]; done) | (simp [*]; omega) | fail) ?_) | (refine rb (x := false) (by first | rfl | (simp; done) | (simp; omega) | (simp [*]; done) | (simp [*]; omega) | fail) ?_) | (refine rb (by first | rfl | (simp; done) | (simp; omega) | (simp [*]; done) | (simp [*]; omega) | fail) ?_) | (refine ri (by first | rfl | omega | (rw [wrap_id] <;> omega) | (simp; omega) | (simp [*]; done) | fail) ?_) | (refine And.intro (by first | exact trivial | rfl | decide | exact Nat.le_of_ble_eq_true rfl | assumption | exact ⟨rfl, Nat.le_of_ble_eq_true rfl⟩ | exact ⟨trivial, rfl⟩ | exact ⟨⟨trivial, rfl⟩, rfl⟩ | omega | (simp; done) | (simp; omega) | (simp [*]; done) | fail) ?_) | (fail))
      · by_cases c : m > M
        · rw [if_pos (by simp; omega)]; repeat' ((conv => whnf); first | (exact trivial) | (refine k_call _ (h51) ?_) | (refine k_call _ (h66) ?_) | (refine now_T ?_) | (refine now_E1 (by first | omega | (simp; done) | (simp; omega) | fail) ?_) | (refine now_E0 (by first | omega | (simp; done) | (simp; omega) | fail) ?_) | (refine now_N1 (by first | omega | (simp; done) | (simp; omega) | fail) ?_) | (refine now_N0 (by first | omega | (simp; done) | (simp; omega) | fail) ?_) | (refine now_D1 (by first | omega | (simp; done) | (simp; omega) | fail) ?_) | (refine now_D0 (by first | omega | (simp; done) | (simp; omega) | fail) ?_) | (refine now_E (fun hq => ?_) (fun hq => ?_)) | (refine now_N (fun hq => ?_) (fun hq => ?_)) | (refine now_D (fun hq => ?_) (fun hq => ?_)) | (refine rb (x := true) (by first | rfl | (simp; done) | (simp; omega) | (simp [*]; done) | (simp [*]; omega) | fail) ?_) | (refine rb (x := false) (by first | rfl | (simp; done) | (simp; omega) | (simp [*]; done) | (simp [*]; omega) | fail) ?_) | (refine rb (by first | rfl | (simp; done) | (simp; omega) | (simp [*]; done) | (simp [*]; omega) | fail) ?_) | (refine ri (by first | rfl | omega | (rw [wrap_id] <;> omega) | (simp; omega) | (simp [*]; done) | fail) ?_) | (refine And.intro (by first | exact trivial | rfl | decide | exact Nat.le_of_ble_eq_true rfl | assumption | exact ⟨rfl, Nat.le_of_ble_eq_true rfl⟩ | exact ⟨trivial, rfl⟩ | exact ⟨⟨trivial, rfl⟩, rfl⟩ | omega | (simp; done) | (simp; omega) | (simp [*]; done) | fail) ?_) | (fail))
        · rw [if_neg (by simp; omega)]; repeat' ((conv => whnf); first | (exact trivial) | (refine k_call _ (h51) ?_) | (refine k_call _ (h66) ?_) | (refine now_T ?_) | (refine now_E1 (by first | omega | (simp; done) | (simp; omega) | fail) ?_) | (refine now_E0 (by first | omega | (simp; done) | (simp; omega) | fail) ?_) | (refine now_N1 (by first | omega | (simp; done) | (simp; omega) | fail) ?_) | (refine now_N0 (by first | omega | (simp; done) | (simp; omega) | fail) ?_) | (refine now_D1 (by first | omega | (simp; done) | (simp; omega) | fail) ?_) | (refine now_D0 (by first | omega | (simp; done) | (simp; omega) | fail) ?_) | (refine now_E (fun hq => ?_) (fun hq => ?_)) | (refine now_N (fun hq => ?_) (fun hq => ?_)) | (refine now_D (fun hq => ?_) (fun hq => ?_)) | (refine rb (x := true) (by first | rfl | (simp; done) | (simp; omega) | (simp [*]; done) | (simp [*]; omega) | fail) ?_) | (refine rb (x := false) (by first | rfl | (simp; done) | (simp; omega) | (simp [*]; done) | (simp [*]; omega) | fail) ?_) | (refine rb (by first | rfl | (simp; done) | (simp; omega) | (simp [*]; done) | (simp [*]; omega) | fail) ?_) | (refine ri (by first | rfl | omega | (rw [wrap_id] <;> omega) | (simp; omega) | (simp [*]; done) | fail) ?_) | (refine And.intro (by first | exact trivial | rfl | decide | exact Nat.le_of_ble_eq_true rfl | assumption | exact ⟨rfl, Nat.le_of_ble_eq_true rfl⟩ | exact ⟨trivial, rfl⟩ | exact ⟨⟨trivial, rfl⟩, rfl⟩ | omega | (simp; done) | (simp; omega) | (simp [*]; done) | fail) ?_) | (fail))
  · rw [if_neg hk]
    have h3 : k ≠ 3 := fun h => hk (.inl h)
    have h4 : k ≠ 4 := fun h => hk (.inr (.inl h))
    have h5 : k ≠ 5 := fun h => hk (.inr (.inr h))
    repeat' ((conv => whnf); first | (exact trivial) | (refine now_T ?_) | (refine now_E1 (by first | omega | (simp; done) | (simp; omega) | fail) ?_) | (refine now_E0 (by first | omega | (simp; done) | (simp; omega) | fail) ?_) | (refine now_N1 (by first | omega | (simp; done) | (simp; omega) | fail) ?_) | (refine now_N0 (by first | omega | (simp; done) | (simp; omega) | fail) ?_) | (refine now_D1 (by first | omega | (simp; done) | (simp; omega) | fail) ?_) | (refine now_D0 (by first | omega | (simp; done) | (simp; omega) | fail) ?_) | (refine now_E (fun hq => ?_) (fun hq => ?_)) | (refine now_N (fun hq => ?_) (fun hq => ?_)) | (refine now_D (fun hq => ?_) (fun hq => ?_)) | (refine rb (x := true) (by first | rfl | (simp; done) | (simp; omega) | (simp [*]; done) | (simp [*]; omega) | fail) ?_) | (refine rb (x := false) (by first | rfl | (simp; done) | (simp; omega) | (simp [*]; done) | (simp [*]; omega) | fail) ?_) | (refine rb (by first | rfl | (simp; done) | (simp; omega) | (simp [*]; done) | (simp [*]; omega) | fail) ?_) | (refine ri (by first | rfl | omega | (rw [wrap_id] <;> omega) | (simp; omega) | (simp [*]; done) | fail) ?_) | (refine And.intro (by first | exact trivial | rfl | decide | exact Nat.le_of_ble_eq_true rfl | assumption | exact ⟨rfl, Nat.le_of_ble_eq_true rfl⟩ | exact ⟨trivial, rfl⟩ | exact ⟨⟨trivial, rfl⟩, rfl⟩ | omega | (simp; done) | (simp; omega) | (simp [*]; done) | fail) ?_) | (fail))

def fitAll (l : List Fd) (r : RP) : Int := firstNZ ((partsR r).map (fitP l))
theorem t65 (l : List Fd) (hl : LOk l) (r : RP) (hr : r.nodes < 2 ^ 40) : DCalls Try.prog 65 [fds l, .agg (cellsR r)] (I (fitAll l r)) := by
  refine dcalls_low (rs := [.tmp 4]) mixed Try.func65 l65 rfl rfl rfl (r := [.int _ _]) (Nat.le_of_ble_eq_true rfl) ?_
  have h91 := t91 _ r (Nat.le_refl _) hr
  have hlen := partsR_len r
  unfold fitAll
  generalize partsR r = ps at *
  repeat' ((conv => whnf); first | (exact trivial) | (refine k_call _ (h91) ?_) | (refine now_T ?_) | (refine now_E1 (by first | omega | (simp; done) | (simp; omega) | fail) ?_) | (refine now_E0 (by first | omega | (simp; done) | (simp; omega) | fail) ?_) | (refine now_N1 (by first | omega | (simp; done) | (simp; omega) | fail) ?_) | (refine now_N0 (by first | omega | (simp; done) | (simp; omega) | fail) ?_) | (refine now_D1 (by first | omega | (simp; done) | (simp; omega) | fail) ?_) | (refine now_D0 (by first | omega | (simp; done) | (simp; omega) | fail) ?_) | (refine now_E (fun hq => ?_) (fun hq => ?_)) | (refine now_N (fun hq => ?_) (fun hq => ?_)) | (refine now_D (fun hq => ?_) (fun hq => ?_)) | (refine rb (x := true) (by first | rfl | (simp; done) | (simp; omega) | (simp [*]; done) | (simp [*]; omega) | fail) ?_) | (refine rb (x := false) (by first | rfl | (simp; done) | (simp; omega) | (simp [*]; done) | (simp [*]; omega) | fail) ?_) | (refine rb (by first | rfl | (simp; done) | (simp; omega) | (simp [*]; done) | (simp [*]; omega) | fail) ?_) | (refine ri (by first | rfl | omega | (rw [wrap_id] <;> omega) | (simp; omega) | (simp [*]; done) | fail) ?_) | (refine And.intro (by first | (exact cellsR_len _; done) | exact trivial | rfl | decide | exact Nat.le_of_ble_eq_true rfl | assumption | exact ⟨rfl, Nat.le_of_ble_eq_true rfl⟩ | exact ⟨trivial, rfl⟩ | exact ⟨⟨trivial, rfl⟩, rfl⟩ | omega | (simp; done) | (simp; omega) | (simp [*]; done) | fail) ?_) | (fail))
  refine wpC_loop (α := Nat) (fun i => {sl := [(0, .t (fds l)), (5, .t (.slice 5 (ps.map encR))), (6, .t (I i))], bx := []})
    (fun i => i ≤ ps.length ∧ ∀ j (h : j < ps.length), j < i → fitP l ps[j] = 0) (fun i => ps.length - i) 0 (by simp) ?_ ?_
  · repeat' (first | (exact trivial) | (exact LeV.same _) | (exact LeB.same _) | (exact rfl) | (exact fun _ _ _ => trivial) | (exact leI (by first | omega | (rw [wrap_id] <;> omega) | (simp; omega) | (simp [*]; done) | fail)) | (exact LeV.nil _ _ _) | (exact leB (by first | rfl | (simp; done) | (simp [*]; done) | (simp [*]; omega) | fail)) | (refine leBd ?_) | (refine leOwn ?_) | (refine And.intro ?_ ?_))
  rintro i ⟨hi, hp⟩
  rcases Nat.lt_or_ge i ps.length with h | h
  · have h92 := t92 l hl ps[i]
    by_cases h0 : fitP l ps[i] = 0
    · rw [h0] at h92
      repeat' ((conv => whnf); first | (exact trivial) | (refine now_v (.agg (cellsR ps[i])) (by first | (simp [h, encR_cells]; done) | fail) ?_) | (refine k_call _ (h92) ?_) | (refine now_T ?_) | (refine now_E1 (by first | omega | (simp; done) | (simp; omega) | fail) ?_) | (refine now_E0 (by first | omega | (simp; done) | (simp; omega) | fail) ?_) | (refine now_N1 (by first | omega | (simp; done) | (simp; omega) | fail) ?_) | (refine now_N0 (by first | omega | (simp; done) | (simp; omega) | fail) ?_) | (refine now_D1 (by first | omega | (simp; done) | (simp; omega) | fail) ?_) | (refine now_D0 (by first | omega | (simp; done) | (simp; omega) | fail) ?_) | (refine now_E (fun hq => ?_) (fun hq => ?_)) | (refine now_N (fun hq => ?_) (fun hq => ?_)) | (refine now_D (fun hq => ?_) (fun hq => ?_)) | (refine rb (x := true) (by first | rfl | (simp; done) | (simp; omega) | (simp [*]; done) | (simp [*]; omega) | fail) ?_) | (refine rb (x := false) (by first | rfl | (simp; done) | (simp; omega) | (simp [*]; done) | (simp [*]; omega) | fail) ?_) | (refine rb (by first | rfl | (simp; done) | (simp; omega) | (simp [*]; done) | (simp [*]; omega) | fail) ?_) | (refine ri (by first | rfl | omega | (rw [wrap_id] <;> omega) | (simp; omega) | (simp [*]; done) | fail) ?_) | (refine And.intro (by first | (exact cellsR_len _; done) | exact trivial | rfl | decide | exact Nat.le_of_ble_eq_true rfl | assumption | exact ⟨rfl, Nat.le_of_ble_eq_true rfl⟩ | exact ⟨trivial, rfl⟩ | exact ⟨⟨trivial, rfl⟩, rfl⟩ | omega | (simp; done) | (simp; omega) | (simp [*]; done) | fail) ?_) | (fail))
      refine ⟨i + 1, ⟨h, fun j hj hlt => ?_⟩, by omega, ?_⟩
      · rcases Nat.lt_or_ge j i with h4 | h4
        · exact hp j hj h4
        · obtain rfl : j = i := by omega
          exact h0
      · repeat' (first | (exact trivial) | (exact LeV.same _) | (exact LeB.same _) | (exact rfl) | (exact fun _ _ _ => trivial) | (exact leI (by first | omega | (rw [wrap_id] <;> omega) | (simp; omega) | (simp [*]; done) | fail)) | (exact LeV.nil _ _ _) | (exact leB (by first | rfl | (simp; done) | (simp [*]; done) | (simp [*]; omega) | fail)) | (refine leBd ?_) | (refine leOwn ?_) | (refine And.intro ?_ ?_))
    · have e : firstNZ (ps.map (fitP l)) = fitP l ps[i] := by
        have := firstNZ_at (l := ps.map (fitP l)) (i := i) (by simpa using h) (fun j hj hlt => by simpa using hp j (by simpa using hj) hlt) (by simpa using h0)
        simpa using this
      rw [e]
      generalize fitP l ps[i] = e at *
      repeat' ((conv => whnf); first | (exact trivial) | (refine now_v (.agg (cellsR ps[i])) (by first | (simp [h, encR_cells]; done) | fail) ?_) | (refine k_call _ (h92) ?_) | (refine now_T ?_) | (refine now_E1 (by first | omega | (simp; done) | (simp; omega) | fail) ?_) | (refine now_E0 (by first | omega | (simp; done) | (simp; omega) | fail) ?_) | (refine now_N1 (by first | omega | (simp; done) | (simp; omega) | fail) ?_) | (refine now_N0 (by first | omega | (simp; done) | (simp; omega) | fail) ?_) | (refine now_D1 (by first | omega | (simp; done) | (simp; omega) | fail) ?_) | (refine now_D0 (by first | omega | (simp; done) | (simp; omega) | fail) ?_) | (refine now_E (fun hq => ?_) (fun hq => ?_)) | (refine now_N (fun hq => ?_) (fun hq => ?_)) | (refine now_D (fun hq => ?_) (fun hq => ?_)) | (refine rb (x := true) (by first | rfl | (simp; done) | (simp; omega) | (simp [*]; done) | (simp [*]; omega) | fail) ?_) | (refine rb (x := false) (by first | rfl | (simp; done) | (simp; omega) | (simp [*]; done) | (simp [*]; omega) | fail) ?_) | (refine rb (by first | rfl | (simp; done) | (simp; omega) | (simp [*]; done) | (simp [*]; omega) | fail) ?_) | (refine ri (by first | rfl | omega | (rw [wrap_id] <;> omega) | (simp; omega) | (simp [*]; done) | fail) ?_) | (refine And.intro (by first | (exact cellsR_len _; done) | exact trivial | rfl | decide | exact Nat.le_of_ble_eq_true rfl | assumption | exact ⟨rfl, Nat.le_of_ble_eq_true rfl⟩ | exact ⟨trivial, rfl⟩ | exact ⟨⟨trivial, rfl⟩, rfl⟩ | omega | (simp; done) | (simp; omega) | (simp [*]; done) | fail) ?_) | (fail))
  · rw [firstNZ_0 fun j hj => by simpa using hp j (by simpa using hj) (by simp at hj; omega)]
    repeat' ((conv => whnf); first | (exact trivial) | (refine now_T ?_) | (refine now_E1 (by first | omega | (simp; done) | (simp; omega) | fail) ?_) | (refine now_E0 (by first | omega | (simp; done) | (simp; omega) | fail) ?_) | (refine now_N1 (by first | omega | (simp; done) | (simp; omega) | fail) ?_) | (refine now_N0 (by first | omega | (simp; done) | (simp; omega) | fail) ?_) | (refine now_D1 (by first | omega | (simp; done) | (simp; omega) | fail) ?_) | (refine now_D0 (by first | omega | (simp; done) | (simp; omega) | fail) ?_) | (refine now_E (fun hq => ?_) (fun hq => ?_)) | (refine now_N (fun hq => ?_) (fun hq => ?_)) | (refine now_D (fun hq => ?_) (fun hq => ?_)) | (refine rb (x := true) (by first | rfl | (simp; done) | (simp; omega) | (simp [*]; done) | (simp [*]; omega) | fail) ?_) | (refine rb (x := false) (by first | rfl | (simp; done) | (simp; omega) | (simp [*]; done) | (simp [*]; omega) | fail) ?_) | (refine rb (by first | rfl | (simp; done) | (simp; omega) | (simp [*]; done) | (simp [*]; omega) | fail) ?_) | (refine ri (by first | rfl | omega | (rw [wrap_id] <;> omega) | (simp; omega) | (simp [*]; done) | fail) ?_) | (refine And.intro (by first | exact trivial | rfl | decide | exact Nat.le_of_ble_eq_true rfl | assumption | exact ⟨rfl, Nat.le_of_ble_eq_true rfl⟩ | exact ⟨trivial, rfl⟩ | exact ⟨⟨trivial, rfl⟩, rfl⟩ | omega | (simp; done) | (simp; omega) | (simp [*]; done) | fail) ?_) | (fail))

def fitO (l : List Fd) : RO → Int
  | .mk k p f n _ => if k = 1 then fitAll l p else if k = 2 then (match findF l f with
      | none => 4
      | some F => if n > ((2 ^ F.w - 1 : Nat) : Int) then 1 else 0) else 0
def polI (l : List Fd) (r : RO) : Int := if checkO r ≠ 0 then checkO r else firstNZ ((partsS r).map (fitO l))

mutual
theorem partsS_wt : ∀ r : RO, ∀ x ∈ partsS r, x.wt ≤ r.wt
  | .mk k p f n a => fun x hx => by
    simp only [partsS, List.mem_cons] at hx
    rcases hx with rfl | hx
    · exact Nat.le_refl _
    · have := partsSs_wt a x hx; simp only [RO.wt]; omega
theorem partsSs_wt : ∀ l : List RO, ∀ x ∈ partsSs l, x.wt ≤ wtSs l
  | [] => fun x hx => by simp [partsSs] at hx
  | r :: rs => fun x hx => by
    simp only [partsSs, List.mem_append] at hx
    simp only [wtSs]
    rcases hx with hx | hx
    · have := partsS_wt r x hx; omega
    · have := partsSs_wt rs x hx; omega
end

theorem t40 (l : List Fd) (hl : LOk l) (r : RO) (hr : r.wt < 2 ^ 40) (hn : namesO r) : DCalls Try.prog 40 [fds l, .agg (cellsS r)] (I (polI l r)) := by
  refine dcalls_low (rs := [.tmp 4]) mixed Try.func40 l40 rfl rfl rfl (r := [.int _ _]) (Nat.le_of_ble_eq_true rfl) ?_
  have h63 := t63 r (by omega) hn
  have h64 := t64 _ r (Nat.le_refl _) hr
  have hlen := partsS_len r
  have hw := partsS_wt r
  have hcl := r.cnt_le
  unfold polI
  generalize partsS r = ps at *
  by_cases hc : checkO r ≠ 0
  · rw [if_pos hc]
    generalize checkO r = e at *
    repeat' ((conv => whnf); first | (exact trivial) | (refine k_call _ (h63) ?_) | (refine now_T ?_) | (refine now_E1 (by first | omega | (simp; done) | (simp; omega) | fail) ?_) | (refine now_E0 (by first | omega | (simp; done) | (simp; omega) | fail) ?_) | (refine now_N1 (by first | omega | (simp; done) | (simp; omega) | fail) ?_) | (refine now_N0 (by first | omega | (simp; done) | (simp; omega) | fail) ?_) | (refine now_D1 (by first | omega | (simp; done) | (simp; omega) | fail) ?_) | (refine now_D0 (by first | omega | (simp; done) | (simp; omega) | fail) ?_) | (refine now_E (fun hq => ?_) (fun hq => ?_)) | (refine now_N (fun hq => ?_) (fun hq => ?_)) | (refine now_D (fun hq => ?_) (fun hq => ?_)) | (refine rb (x := true) (by first | rfl | (simp; done) | (simp; omega) | (simp [*]; done) | (simp [*]; omega) | fail) ?_) | (refine rb (x := false) (by first | rfl | (simp; done) | (simp; omega) | (simp [*]; done) | (simp [*]; omega) | fail) ?_) | (refine rb (by first | rfl | (simp; done) | (simp; omega) | (simp [*]; done) | (simp [*]; omega) | fail) ?_) | (refine ri (by first | rfl | omega | (rw [wrap_id] <;> omega) | (simp; omega) | (simp [*]; done) | fail) ?_) | (refine And.intro (by first | (exact cellsS_len _; done) | exact trivial | rfl | decide | exact Nat.le_of_ble_eq_true rfl | assumption | exact ⟨rfl, Nat.le_of_ble_eq_true rfl⟩ | exact ⟨trivial, rfl⟩ | exact ⟨⟨trivial, rfl⟩, rfl⟩ | omega | (simp; done) | (simp; omega) | (simp [*]; done) | fail) ?_) | (fail))
  rw [if_neg hc]
  have hc : checkO r = 0 := Decidable.not_not.1 hc
  rw [hc] at h63
  repeat' ((conv => whnf); first | (exact trivial) | (refine k_call _ (h63) ?_) | (refine k_call _ (h64) ?_) | (refine now_T ?_) | (refine now_E1 (by first | omega | (simp; done) | (simp; omega) | fail) ?_) | (refine now_E0 (by first | omega | (simp; done) | (simp; omega) | fail) ?_) | (refine now_N1 (by first | omega | (simp; done) | (simp; omega) | fail) ?_) | (refine now_N0 (by first | omega | (simp; done) | (simp; omega) | fail) ?_) | (refine now_D1 (by first | omega | (simp; done) | (simp; omega) | fail) ?_) | (refine now_D0 (by first | omega | (simp; done) | (simp; omega) | fail) ?_) | (refine now_E (fun hq => ?_) (fun hq => ?_)) | (refine now_N (fun hq => ?_) (fun hq => ?_)) | (refine now_D (fun hq => ?_) (fun hq => ?_)) | (refine rb (x := true) (by first | rfl | (simp; done) | (simp; omega) | (simp [*]; done) | (simp [*]; omega) | fail) ?_) | (refine rb (x := false) (by first | rfl | (simp; done) | (simp; omega) | (simp [*]; done) | (simp [*]; omega) | fail) ?_) | (refine rb (by first | rfl | (simp; done) | (simp; omega) | (simp [*]; done) | (simp [*]; omega) | fail) ?_) | (refine ri (by first | rfl | omega | (rw [wrap_id] <;> omega) | (simp; omega) | (simp [*]; done) | fail) ?_) | (refine And.intro (by first | (exact cellsS_len _; done) | exact trivial | rfl | decide | exact Nat.le_of_ble_eq_true rfl | assumption | exact ⟨rfl, Nat.le_of_ble_eq_true rfl⟩ | exact ⟨trivial, rfl⟩ | exact ⟨⟨trivial, rfl⟩, rfl⟩ | omega | (simp; done) | (simp; omega) | (simp [*]; done) | fail) ?_) | (fail))
  refine wpC_loop (α := Nat) (fun i => {sl := [(0, .t (fds l)), (5, .t (I 0)), (6, .t (.slice 9 (ps.map encS))), (7, .t (I i))], bx := []})
    (fun i => i ≤ ps.length ∧ ∀ j (h : j < ps.length), j < i → fitO l ps[j] = 0) (fun i => ps.length - i) 0 (by simp) ?_ ?_
  · repeat' (first | (exact trivial) | (exact LeV.same _) | (exact LeB.same _) | (exact rfl) | (exact fun _ _ _ => trivial) | (exact leI (by first | omega | (rw [wrap_id] <;> omega) | (simp; omega) | (simp [*]; done) | fail)) | (exact LeV.nil _ _ _) | (exact leB (by first | rfl | (simp; done) | (simp [*]; done) | (simp [*]; omega) | fail)) | (refine leBd ?_) | (refine leOwn ?_) | (refine And.intro ?_ ?_))
  rintro i ⟨hi, hp⟩
  rcases Nat.lt_or_ge i ps.length with h | h
  · have res : ∀ e, fitO l ps[i] = e → e ≠ 0 → firstNZ (ps.map (fitO l)) = e := fun e he h0 => by
      have := firstNZ_at (l := ps.map (fitO l)) (i := i) (by simpa using h) (fun j hj hlt => by simpa using hp j (by simpa using hj) hlt) (by simpa [he] using h0)
      rw [this]; simpa using he
    have next : fitO l ps[i] = 0 → i + 1 ≤ ps.length ∧ ∀ j (h : j < ps.length), j < i + 1 → fitO l ps[j] = 0 := fun h0 => by
      refine ⟨h, fun j hj hlt => ?_⟩
      rcases Nat.lt_or_ge j i with h4 | h4
      · exact hp j hj h4
      · obtain rfl : j = i := by omega
        exact h0
    have hwi := hw _ (List.getElem_mem h)
    have hg : (ps.map encS)[i]?.getD .nil = .agg (cellsS ps[i]) := by simp [h, encS_cells]
    generalize ps[i] = x at *
    obtain ⟨k, ⟨pk, pf, pn, pm, pa⟩, f, n, a⟩ := x
    have h51 := t51 l f hl.len
    by_cases hk1 : k = 1
    · subst hk1
      have h65 := t65 l hl (.mk pk pf pn pm pa) (by simp only [RO.wt] at hwi; omega)
      have ef : fitO l (.mk 1 (.mk pk pf pn pm pa) f n a) = fitAll l (.mk pk pf pn pm pa) := by simp [fitO]
      rw [ef] at res next
      generalize fitAll l (.mk pk pf pn pm pa) = e at *
      by_cases h0 : e = 0
      · subst h0
        repeat' ((conv => whnf); first | (exact trivial) | (refine now_v (.agg (cellsS (.mk 1 (.mk pk pf pn pm pa) f n a))) (by first | (exact hg; done) | fail) ?_) | (refine k_call _ (h65) ?_) | (exact ⟨i + 1, next rfl, by omega, by (repeat' (first | (exact trivial) | (exact LeV.same _) | (exact LeB.same _) | (exact rfl) | (exact fun _ _ _ => trivial) | (exact leI (by first | omega | (rw [wrap_id] <;> omega) | (simp; omega) | (simp [*]; done) | fail)) | (exact LeV.nil _ _ _) | (exact leB (by first | rfl | (simp; done) | (simp [*]; done) | (simp [*]; omega) | fail)) | (refine leBd ?_) | (refine leOwn ?_) | (refine And.intro ?_ ?_))); done⟩) | (refine now_T ?_) | (refine now_E1 (by first | omega | (simp; done) | (simp; omega) | fail) ?_) | (refine now_E0 (by first | omega | (simp; done) | (simp; omega) | fail) ?_) | (refine now_N1 (by first | omega | (simp; done) | (simp; omega) | fail) ?_) | (refine now_N0 (by first | omega | (simp; done) | (simp; omega) | fail) ?_) | (refine now_D1 (by first | omega | (simp; done) | (simp; omega) | fail) ?_) | (refine now_D0 (by first | omega | (simp; done) | (simp; omega) | fail) ?_) | (refine now_E (fun hq => ?_) (fun hq => ?_)) | (refine now_N (fun hq => ?_) (fun hq => ?_)) | (refine now_D (fun hq => ?_) (fun hq => ?_)) | (refine rb (x := true) (by first | rfl | (simp; done) | (simp; omega) | (simp [*]; done) | (simp [*]; omega) | fail) ?_) | (refine rb (x := false) (by first | rfl | (simp; done) | (simp; omega) | (simp [*]; done) | (simp [*]; omega) | fail) ?_) | (refine rb (by first | rfl | (simp; done) | (simp; omega) | (simp [*]; done) | (simp [*]; omega) | fail) ?_) | (refine ri (by first | rfl | omega | (rw [wrap_id] <;> omega) | (simp; omega) | (simp [*]; done) | fail) ?_) | (refine And.intro (by first | exact trivial | rfl | decide | exact Nat.le_of_ble_eq_true rfl | assumption | exact ⟨rfl, Nat.le_of_ble_eq_true rfl⟩ | exact ⟨trivial, rfl⟩ | exact ⟨⟨trivial, rfl⟩, rfl⟩ | omega | (simp; done) | (simp; omega) | (simp [*]; done) | fail) ?_) | (fail))
      · rw [res e rfl h0]
        repeat' ((conv => whnf); first | (exact trivial) | (refine now_v (.agg (cellsS (.mk 1 (.mk pk pf pn pm pa) f n a))) (by first | (exact hg; done) | fail) ?_) | (refine k_call _ (h65) ?_) | (refine now_T ?_) | (refine now_E1 (by first | omega | (simp; done) | (simp; omega) | fail) ?_) | (refine now_E0 (by first | omega | (simp; done) | (simp; omega) | fail) ?_) | (refine now_N1 (by first | omega | (simp; done) | (simp; omega) | fail) ?_) | (refine now_N0 (by first | omega | (simp; done) | (simp; omega) | fail) ?_) | (refine now_D1 (by first | omega | (simp; done) | (simp; omega) | fail) ?_) | (refine now_D0 (by first | omega | (simp; done) | (simp; omega) | fail) ?_) | (refine now_E (fun hq => ?_) (fun hq => ?_)) | (refine now_N (fun hq => ?_) (fun hq => ?_)) | (refine now_D (fun hq => ?_) (fun hq => ?_)) | (refine rb (x := true) (by first | rfl | (simp; done) | (simp; omega) | (simp [*]; done) | (simp [*]; omega) | fail) ?_) | (refine rb (x := false) (by first | rfl | (simp; done) | (simp; omega) | (simp [*]; done) | (simp [*]; omega) | fail) ?_) | (refine rb (by first | rfl | (simp; done) | (simp; omega) | (simp [*]; done) | (simp [*]; omega) | fail) ?_) | (refine ri (by first | rfl | omega | (rw [wrap_id] <;> omega) | (simp; omega) | (simp [*]; done) | fail) ?_) | (refine And.intro (by first | exact trivial | rfl | decide | exact Nat.le_of_ble_eq_true rfl | assumption | exact ⟨rfl, Nat.le_of_ble_eq_true rfl⟩ | exact ⟨trivial, rfl⟩ | exact ⟨⟨trivial, rfl⟩, rfl⟩ | omega | (simp; done) | (simp; omega) | (simp [*]; done) | fail) ?_) | (fail))
    · by_cases hk2 : k = 2
      · subst hk2
        unfold findT at h51
        cases hF : findF l f with
        | none =>
          rw [hF] at h51
          rw [res 4 (by simp [fitO, hF]) (by decide)]
          simp only at h51
          repeat' ((conv => whnf); first | (exact trivial) | (refine now_v (.agg (cellsS (.mk 2 (.mk pk pf pn pm pa) f n a))) (by first | (exact hg; done) | fail) ?_) | (refine k_call _ (h51) ?_) | (refine now_T ?_) | (refine now_E1 (by first | omega | (simp; done) | (simp; omega) | fail) ?_) | (refine now_E0 (by first | omega | (simp; done) | (simp; omega) | fail) ?_) | (refine now_N1 (by first | omega | (simp; done) | (simp; omega) | fail) ?_) | (refine now_N0 (by first | omega | (simp; done) | (simp; omega) | fail) ?_) | (refine now_D1 (by first | omega | (simp; done) | (simp; omega) | fail) ?_) | (refine now_D0 (by first | omega | (simp; done) | (simp; omega) | fail) ?_) | (refine now_E (fun hq => ?_) (fun hq => ?_)) | (refine now_N (fun hq => ?_) (fun hq => ?_)) | (refine now_D (fun hq => ?_) (fun hq => ?_)) | (refine rb (x := true) (by first | rfl | (simp; done) | (simp; omega) | (simp [*]; done) | (simp [*]; omega) | fail) ?_) | (refine rb (x := false) (by first | rfl | (simp; done) | (simp; omega) | (simp [*]; done) | (simp [*]; omega) | fail) ?_) | (refine rb (by first | rfl | (simp; done) | (simp; omega) | (simp [*]; done) | (simp [*]; omega) | fail) ?_) | (refine ri (by first | rfl | omega | (rw [wrap_id] <;> omega) | (simp; omega) | (simp [*]; done) | fail) ?_) | (refine And.intro (by first | exact trivial | rfl | decide | exact Nat.le_of_ble_eq_true rfl | assumption | exact ⟨rfl, Nat.le_of_ble_eq_true rfl⟩ | exact ⟨trivial, rfl⟩ | exact ⟨⟨trivial, rfl⟩, rfl⟩ | omega | (simp; done) | (simp; omega) | (simp [*]; done) | fail) ?_) | (fail))
        | some F =>
          rw [hF] at h51
          simp only at h51
          have h66 := t66 F (hl.find hF)
          by_cases hc : n > ((2 ^ F.w - 1 : Nat) : Int)
          · rw [res 1 (by simp only [fitO, hF]; rw [if_neg (by decide), if_pos trivial, if_pos hc]) (by decide)]
            generalize ((2 ^ F.w - 1 : Nat) : Int) = M at *
            repeat' ((conv => whnf); first | (exact trivial) | (refine now_v (.agg (cellsS (.mk 2 (.mk pk pf pn pm pa) f n a))) (by first | (exact hg; done) | fail) ?_) | (refine k_call _ (h51) ?_) | (refine k_call _ (h66) ?_) | (refine now_T ?_) | (refine now_E1 (by first | omega | (simp; done) | (simp; omega) | fail) ?_) | (refine now_E0 (by first | omega | (simp; done) | (simp; omega) | fail) ?_) | (refine now_N1 (by first | omega | (simp; done) | (simp; omega) | fail) ?_) | (refine now_N0 (by first | omega | (simp; done) | (simp; omega) | fail) ?_) | (refine now_D1 (by first | omega | (simp; done) | (simp; omega) | fail) ?_) | (refine now_D0 (by first | omega | (simp; done) | (simp; omega) | fail) ?_) | (refine now_E (fun hq => ?_) (fun hq => ?_)) | (refine now_N (fun hq => ?_) (fun hq => ?_)) | (refine now_D (fun hq => ?_) (fun hq => ?_)) | (refine rb (x := true) (by first | rfl | (simp; done) | (simp; omega) | (simp [*]; done) | (simp [*]; omega) | fail) ?_) | (refine rb (x := false) (by first | rfl | (simp; done) | (simp; omega) | (simp [*]; done) | (simp [*]; omega) | fail) ?_) | (refine rb (by first | rfl | (simp; done) | (simp; omega) | (simp [*]; done) | (simp [*]; omega) | fail) ?_) | (refine ri (by first | rfl | omega | (rw [wrap_id] <;> omega) | (simp; omega) | (simp [*]; done) | fail) ?_) | (refine And.intro (by first | exact trivial | rfl | decide | exact Nat.le_of_ble_eq_true rfl | assumption | exact ⟨rfl, Nat.le_of_ble_eq_true rfl⟩ | exact ⟨trivial, rfl⟩ | exact ⟨⟨trivial, rfl⟩, rfl⟩ | omega | (simp; done) | (simp; omega) | (simp [*]; done) | fail) ?_) | (fail))
          · have next := next (by simp only [fitO, hF]; rw [if_neg (by decide), if_pos trivial, if_neg hc])
            generalize ((2 ^ F.w - 1 : Nat) : Int) = M at *
            repeat' ((conv => whnf); first | (exact trivial) | (refine now_v (.agg (cellsS (.mk 2 (.mk pk pf pn pm pa) f n a))) (by first | (exact hg; done) | fail) ?_) | (refine k_call _ (h51) ?_) | (refine k_call _ (h66) ?_) | (exact ⟨i + 1, next, by omega, by (repeat' (first | (exact trivial) | (exact LeV.same _) | (exact LeB.same _) | (exact rfl) | (exact fun _ _ _ => trivial) | (exact leI (by first | omega | (rw [wrap_id] <;> omega) | (simp; omega) | (simp [*]; done) | fail)) | (exact LeV.nil _ _ _) | (exact leB (by first | rfl | (simp; done) | (simp [*]; done) | (simp [*]; omega) | fail)) | (refine leBd ?_) | (refine leOwn ?_) | (refine And.intro ?_ ?_))); done⟩) | (refine now_T ?_) | (refine now_E1 (by first | omega | (simp; done) | (simp; omega) | fail) ?_) | (refine now_E0 (by first | omega | (simp; done) | (simp; omega) | fail) ?_) | (refine now_N1 (by first | omega | (simp; done) | (simp; omega) | fail) ?_) | (refine now_N0 (by first | omega | (simp; done) | (simp; omega) | fail) ?_) | (refine now_D1 (by first | omega | (simp; done) | (simp; omega) | fail) ?_) | (refine now_D0 (by first | omega | (simp; done) | (simp; omega) | fail) ?_) | (refine now_E (fun hq => ?_) (fun hq => ?_)) | (refine now_N (fun hq => ?_) (fun hq => ?_)) | (refine now_D (fun hq => ?_) (fun hq => ?_)) | (refine rb (x := true) (by first | rfl | (simp; done) | (simp; omega) | (simp [*]; done) | (simp [*]; omega) | fail) ?_) | (refine rb (x := false) (by first | rfl | (simp; done) | (simp; omega) | (simp [*]; done) | (simp [*]; omega) | fail) ?_) | (refine rb (by first | rfl | (simp; done) | (simp; omega) | (simp [*]; done) | (simp [*]; omega) | fail) ?_) | (refine ri (by first | rfl | omega | (rw [wrap_id] <;> omega) | (simp; omega) | (simp [*]; done) | fail) ?_) | (refine And.intro (by first | exact trivial | rfl | decide | exact Nat.le_of_ble_eq_true rfl | assumption | exact ⟨rfl, Nat.le_of_ble_eq_true rfl⟩ | exact ⟨trivial, rfl⟩ | exact ⟨⟨trivial, rfl⟩, rfl⟩ | omega | (simp; done) | (simp; omega) | (simp [*]; done) | fail) ?_) | (fail))
      · have next := next (by simp only [fitO]; rw [if_neg hk1, if_neg hk2])
        repeat' ((conv => whnf); first | (exact trivial) | (refine now_v (.agg (cellsS (.mk k (.mk pk pf pn pm pa) f n a))) (by first | (exact hg; done) | fail) ?_) | (exact ⟨i + 1, next, by omega, by (repeat' (first | (exact trivial) | (exact LeV.same _) | (exact LeB.same _) | (exact rfl) | (exact fun _ _ _ => trivial) | (exact leI (by first | omega | (rw [wrap_id] <;> omega) | (simp; omega) | (simp [*]; done) | fail)) | (exact LeV.nil _ _ _) | (exact leB (by first | rfl | (simp; done) | (simp [*]; done) | (simp [*]; omega) | fail)) | (refine leBd ?_) | (refine leOwn ?_) | (refine And.intro ?_ ?_))); done⟩) | (refine now_T ?_) | (refine now_E1 (by first | omega | (simp; done) | (simp; omega) | fail) ?_) | (refine now_E0 (by first | omega | (simp; done) | (simp; omega) | fail) ?_) | (refine now_N1 (by first | omega | (simp; done) | (simp; omega) | fail) ?_) | (refine now_N0 (by first | omega | (simp; done) | (simp; omega) | fail) ?_) | (refine now_D1 (by first | omega | (simp; done) | (simp; omega) | fail) ?_) | (refine now_D0 (by first | omega | (simp; done) | (simp; omega) | fail) ?_) | (refine now_E (fun hq => ?_) (fun hq => ?_)) | (refine now_N (fun hq => ?_) (fun hq => ?_)) | (refine now_D (fun hq => ?_) (fun hq => ?_)) | (refine rb (x := true) (by first | rfl | (simp; done) | (simp; omega) | (simp [*]; done) | (simp [*]; omega) | fail) ?_) | (refine rb (x := false) (by first | rfl | (simp; done) | (simp; omega) | (simp [*]; done) | (simp [*]; omega) | fail) ?_) | (refine rb (by first | rfl | (simp; done) | (simp; omega) | (simp [*]; done) | (simp [*]; omega) | fail) ?_) | (refine ri (by first | rfl | omega | (rw [wrap_id] <;> omega) | (simp; omega) | (simp [*]; done) | fail) ?_) | (refine And.intro (by first | exact trivial | rfl | decide | exact Nat.le_of_ble_eq_true rfl | assumption | exact ⟨rfl, Nat.le_of_ble_eq_true rfl⟩ | exact ⟨trivial, rfl⟩ | exact ⟨⟨trivial, rfl⟩, rfl⟩ | omega | (simp; done) | (simp; omega) | (simp [*]; done) | fail) ?_) | (fail))
  · rw [firstNZ_0 fun j hj => by simpa using hp j (by simpa using hj) (by simp at hj; omega)]
    repeat' ((conv => whnf); first | (exact trivial) | (refine now_T ?_) | (refine now_E1 (by first | omega | (simp; done) | (simp; omega) | fail) ?_) | (refine now_E0 (by first | omega | (simp; done) | (simp; omega) | fail) ?_) | (refine now_N1 (by first | omega | (simp; done) | (simp; omega) | fail) ?_) | (refine now_N0 (by first | omega | (simp; done) | (simp; omega) | fail) ?_) | (refine now_D1 (by first | omega | (simp; done) | (simp; omega) | fail) ?_) | (refine now_D0 (by first | omega | (simp; done) | (simp; omega) | fail) ?_) | (refine now_E (fun hq => ?_) (fun hq => ?_)) | (refine now_N (fun hq => ?_) (fun hq => ?_)) | (refine now_D (fun hq => ?_) (fun hq => ?_)) | (refine rb (x := true) (by first | rfl | (simp; done) | (simp; omega) | (simp [*]; done) | (simp [*]; omega) | fail) ?_) | (refine rb (x := false) (by first | rfl | (simp; done) | (simp; omega) | (simp [*]; done) | (simp [*]; omega) | fail) ?_) | (refine rb (by first | rfl | (simp; done) | (simp; omega) | (simp [*]; done) | (simp [*]; omega) | fail) ?_) | (refine ri (by first | rfl | omega | (rw [wrap_id] <;> omega) | (simp; omega) | (simp [*]; done) | fail) ?_) | (refine And.intro (by first | exact trivial | rfl | decide | exact Nat.le_of_ble_eq_true rfl | assumption | exact ⟨rfl, Nat.le_of_ble_eq_true rfl⟩ | exact ⟨trivial, rfl⟩ | exact ⟨⟨trivial, rfl⟩, rfl⟩ | omega | (simp; done) | (simp; omega) | (simp [*]; done) | fail) ?_) | (fail))

def fewB (l : List Fd) (r : RO) : Bool := (polI l r == 0) && decide (r.cnt ≤ 40) && decide (r.stars ≤ 2) && lightB r.stars r.puts
theorem t48 (l : List Fd) (hl : LOk l) (r : RO) (hr : r.wt < 2 ^ 40) (hn : namesO r) : DCalls Try.prog 48 [fds l, .agg (cellsS r)] (.bool (fewB l r)) := by
  refine dcalls_low (rs := [.tmp 4]) mixed Try.func48 l48 rfl rfl rfl (r := [.bool _]) (Nat.le_of_ble_eq_true rfl) ?_
  have h1 := t40 l hl r hr hn
  have h2 := t72 _ r (Nat.le_refl _) (by omega)
  have h3 := t59 _ r (Nat.le_refl _) (by omega)
  have h4 := t38 r (by omega)
  unfold fewB
  generalize polI l r = e at *
  generalize lightB r.stars r.puts = b at *
  generalize r.cnt = c at *
  generalize r.stars = s at *
  cases b <;> repeat' ((conv => whnf); first | (exact trivial) | (refine k_call _ (h1) ?_) | (refine k_call _ (h2) ?_) | (refine k_call _ (h3) ?_) | (refine k_call _ (h4) ?_) | (refine now_T ?_) | (refine now_E1 (by first | omega | (simp; done) | (simp; omega) | fail) ?_) | (refine now_E0 (by first | omega | (simp; done) | (simp; omega) | fail) ?_) | (refine now_N1 (by first | omega | (simp; done) | (simp; omega) | fail) ?_) | (refine now_N0 (by first | omega | (simp; done) | (simp; omega) | fail) ?_) | (refine now_D1 (by first | omega | (simp; done) | (simp; omega) | fail) ?_) | (refine now_D0 (by first | omega | (simp; done) | (simp; omega) | fail) ?_) | (refine now_E (fun hq => ?_) (fun hq => ?_)) | (refine now_N (fun hq => ?_) (fun hq => ?_)) | (refine now_D (fun hq => ?_) (fun hq => ?_)) | (refine rb (x := true) (by first | rfl | (simp; done) | (simp; omega) | (simp [*]; done) | (simp [*]; omega) | fail) ?_) | (refine rb (x := false) (by first | rfl | (simp; done) | (simp; omega) | (simp [*]; done) | (simp [*]; omega) | fail) ?_) | (refine rb (by first | rfl | (simp; done) | (simp; omega) | (simp [*]; done) | (simp [*]; omega) | fail) ?_) | (refine ri (by first | rfl | omega | (rw [wrap_id] <;> omega) | (simp; omega) | (simp [*]; done) | fail) ?_) | (refine And.intro (by first | (exact cellsS_len _; done) | exact trivial | rfl | decide | exact Nat.le_of_ble_eq_true rfl | assumption | exact ⟨rfl, Nat.le_of_ble_eq_true rfl⟩ | exact ⟨trivial, rfl⟩ | exact ⟨⟨trivial, rfl⟩, rfl⟩ | omega | (simp; done) | (simp; omega) | (simp [*]; done) | fail) ?_) | (fail))

def RF.fd (f : RF) : Fd := ⟨f.name, f.a.toNat, f.w.toNat⟩
/-- What a checked list of fields is like. -/
structure Checked (l : List RF) : Prop where
  len : l.length ≤ 16
  name : ∀ f ∈ l, name8 f.name = true
  port : ∀ f ∈ l, sameN f.name portN = false
  place : ∀ f ∈ l, placeB f = true
  uniq : ∀ i j (hi : i < l.length) (hj : j < l.length), j < i → sameN l[j].name l[i].name = false
  apart : ∀ i j (hi : i < l.length) (hj : j < l.length), j < i → commonB l[j] l[i] = false

theorem firstNZ_inv : ∀ {l : List Int}, firstNZ l = 0 → ∀ x ∈ l, x = 0
  | [], _, x, hx => by cases hx
  | y :: ys, h, x, hx => by
    simp only [firstNZ] at h
    split at h
    · rename_i hy; exact absurd h hy
    · rename_i hy
      rcases List.mem_cons.1 hx with rfl | hx
      · exact Decidable.not_not.1 hy
      · exact firstNZ_inv h x hx

theorem checked_of {l : List RF} (h : checkF l = 0) : Checked l := by
  unfold checkF at h
  split at h
  · cases h
  rename_i hlen
  have hz : ∀ i (hi : i < l.length), checkAt l i l[i] = 0 := fun i hi => firstNZ_inv h _ (List.mem_iff_getElem.2 ⟨i, by simpa using hi, by simp⟩)
  have key : ∀ i (hi : i < l.length), (¬ (name8 l[i].name = false ∨ sameN l[i].name portN = true)) ∧ (¬ ((l.take i).any fun g => sameN g.name l[i].name) = true) ∧ (¬ placeB l[i] = false) ∧ ¬ ((l.take i).any fun g => commonB g l[i]) = true := fun i hi => by
    have := hz i hi
    unfold checkAt at this
    split at this; · cases this
    split at this; · cases this
    split at this; · cases this
    split at this; · cases this
    rename_i h1 h2 h3 h4
    exact ⟨h1, h2, h3, h4⟩
  refine ⟨by omega, fun f hf => ?_, fun f hf => ?_, fun f hf => ?_, fun i j hi hj hji => ?_, fun i j hi hj hji => ?_⟩
  · obtain ⟨i, hi, rfl⟩ := List.getElem_of_mem hf
    have := (key i hi).1; simp at this; exact this.1
  · obtain ⟨i, hi, rfl⟩ := List.getElem_of_mem hf
    have := (key i hi).1; simp at this; exact this.2
  · obtain ⟨i, hi, rfl⟩ := List.getElem_of_mem hf
    have := (key i hi).2.2.1; simpa using this
  · have := (key i hi).2.1
    rw [any_take (by omega)] at this
    cases hs : sameN l[j].name l[i].name with
    | false => rfl
    | true => exact absurd ⟨j, hj, hji, hs⟩ this
  · have := (key i hi).2.2.2
    rw [any_take (by omega)] at this
    cases hs : commonB l[j] l[i] with
    | false => rfl
    | true => exact absurd ⟨j, hj, hji, hs⟩ this

theorem Checked.fds {l : List RF} (h : Checked l) : encFs l = MM.fds (l.map RF.fd) := by
  unfold encFs MM.fds
  rw [List.map_map]
  congr 1
  refine List.map_congr_left fun f hf => ?_
  have := h.place f hf
  simp [placeB] at this
  obtain ⟨s, a, w⟩ := f
  simp only at this
  simp only [encF, cellsF, Function.comp, MM.fd, RF.fd]
  rw [Int.toNat_of_nonneg (by omega), Int.toNat_of_nonneg (by omega)]

theorem Checked.ok {l : List RF} (h : Checked l) : LOk (l.map RF.fd) := by
  refine ⟨by have := h.len; simp; omega, fun f hf => ?_⟩
  obtain ⟨g, hg, rfl⟩ := List.mem_map.1 hf
  have := h.place g hg
  simp [placeB] at this
  exact ⟨by simp only [RF.fd]; omega, by simp only [RF.fd]; omega, by simp only [RF.fd]; omega⟩

def preB (l : List RF) (h : List Int) (tick : Int) : Bool := (checkF l == 0) && rightH h && decide (0 ≤ tick) && decide (tick ≤ 1073741824)
def rightB (l : List RF) (h : List Int) (tick : Int) (rs : List RO) : Bool := preB l h tick && rs.all fun r => fewB (l.map RF.fd) r

theorem t18 (l : List RF) (hl : l.length < 2 ^ 60) (hn : ∀ f ∈ l, f.name.size < 2 ^ 62) (h : List Int) (hh : h.length = 10) (tick : Int) (rs : List RO) (hlr : rs.length < 2 ^ 60) (hr : ∀ r ∈ rs, r.wt < 2 ^ 40 ∧ namesO r) :
    DCalls Try.prog 18 [encFs l, hd h, I tick, .slice 9 (rs.map encS)] (.bool (rightB l h tick rs)) := by
  have h47 := t47 l hl hn
  have h11 := t11 h hh
  refine dcalls_low (rs := [.tmp 8]) mixed Try.func18 l18 rfl rfl rfl (r := [.bool _]) (Nat.le_of_ble_eq_true rfl) ?_
  unfold rightB preB
  by_cases h20 : l.length > 20
  · have : checkF l = 2 := by unfold checkF; rw [if_pos (by omega)]
    rw [this]
    repeat' ((conv => whnf); first | (exact trivial) | (refine now_T ?_) | (refine now_E1 (by first | omega | (simp; done) | (simp; omega) | fail) ?_) | (refine now_E0 (by first | omega | (simp; done) | (simp; omega) | fail) ?_) | (refine now_N1 (by first | omega | (simp; done) | (simp; omega) | fail) ?_) | (refine now_N0 (by first | omega | (simp; done) | (simp; omega) | fail) ?_) | (refine now_D1 (by first | omega | (simp; done) | (simp; omega) | fail) ?_) | (refine now_D0 (by first | omega | (simp; done) | (simp; omega) | fail) ?_) | (refine now_E (fun hq => ?_) (fun hq => ?_)) | (refine now_N (fun hq => ?_) (fun hq => ?_)) | (refine now_D (fun hq => ?_) (fun hq => ?_)) | (refine rb (x := true) (by first | rfl | (simp; done) | (simp; omega) | (simp [*]; done) | (simp [*]; omega) | fail) ?_) | (refine rb (x := false) (by first | rfl | (simp; done) | (simp; omega) | (simp [*]; done) | (simp [*]; omega) | fail) ?_) | (refine rb (by first | rfl | (simp; done) | (simp; omega) | (simp [*]; done) | (simp [*]; omega) | fail) ?_) | (refine ri (by first | rfl | omega | (rw [wrap_id] <;> omega) | (simp; omega) | (simp [*]; done) | fail) ?_) | (refine And.intro (by first | (simp [hh]; done) | exact trivial | rfl | decide | exact Nat.le_of_ble_eq_true rfl | assumption | exact ⟨rfl, Nat.le_of_ble_eq_true rfl⟩ | exact ⟨trivial, rfl⟩ | exact ⟨⟨trivial, rfl⟩, rfl⟩ | omega | (simp; done) | (simp; omega) | (simp [*]; done) | fail) ?_) | (fail))
  by_cases hc : checkF l = 0
  · have ck := checked_of hc
    have hok := ck.ok
    have hfd := ck.fds
    have h48 := t48 _ hok
    have hLl : (l.map RF.fd).length ≤ 16 := by simpa using ck.len
    generalize hL : l.map RF.fd = L at *
    rw [hc] at h47 ⊢
    cases hR : rightH h with
    | false =>
      rw [hR] at h11
      repeat' ((conv => whnf); first | (exact trivial) | (refine k_call _ (h47) ?_) | (refine k_call _ (h11) ?_) | (refine now_T ?_) | (refine now_E1 (by first | omega | (simp; done) | (simp; omega) | fail) ?_) | (refine now_E0 (by first | omega | (simp; done) | (simp; omega) | fail) ?_) | (refine now_N1 (by first | omega | (simp; done) | (simp; omega) | fail) ?_) | (refine now_N0 (by first | omega | (simp; done) | (simp; omega) | fail) ?_) | (refine now_D1 (by first | omega | (simp; done) | (simp; omega) | fail) ?_) | (refine now_D0 (by first | omega | (simp; done) | (simp; omega) | fail) ?_) | (refine now_E (fun hq => ?_) (fun hq => ?_)) | (refine now_N (fun hq => ?_) (fun hq => ?_)) | (refine now_D (fun hq => ?_) (fun hq => ?_)) | (refine rb (x := true) (by first | rfl | (simp; done) | (simp; omega) | (simp [*]; done) | (simp [*]; omega) | fail) ?_) | (refine rb (x := false) (by first | rfl | (simp; done) | (simp; omega) | (simp [*]; done) | (simp [*]; omega) | fail) ?_) | (refine rb (by first | rfl | (simp; done) | (simp; omega) | (simp [*]; done) | (simp [*]; omega) | fail) ?_) | (refine ri (by first | rfl | omega | (rw [wrap_id] <;> omega) | (simp; omega) | (simp [*]; done) | fail) ?_) | (refine And.intro (by first | (simp [hh]; done) | exact trivial | rfl | decide | exact Nat.le_of_ble_eq_true rfl | assumption | exact ⟨rfl, Nat.le_of_ble_eq_true rfl⟩ | exact ⟨trivial, rfl⟩ | exact ⟨⟨trivial, rfl⟩, rfl⟩ | omega | (simp; done) | (simp; omega) | (simp [*]; done) | fail) ?_) | (fail))
    | true =>
    rw [hR] at h11
    by_cases t0 : 0 ≤ tick
    · by_cases t1 : tick ≤ 1073741824
      · have e : ((0 : Int) == 0 && true && decide (0 ≤ tick) && decide (tick ≤ 1073741824) && rs.all fun r => fewB L r) = rs.all fun r => fewB L r := by simp [t0, t1]
        rw [e, hfd]
        rw [hfd] at h47
        repeat' ((conv => whnf); first | (exact trivial) | (refine k_call _ (h47) ?_) | (refine k_call _ (h11) ?_) | (refine now_T ?_) | (refine now_E1 (by first | omega | (simp; done) | (simp; omega) | fail) ?_) | (refine now_E0 (by first | omega | (simp; done) | (simp; omega) | fail) ?_) | (refine now_N1 (by first | omega | (simp; done) | (simp; omega) | fail) ?_) | (refine now_N0 (by first | omega | (simp; done) | (simp; omega) | fail) ?_) | (refine now_D1 (by first | omega | (simp; done) | (simp; omega) | fail) ?_) | (refine now_D0 (by first | omega | (simp; done) | (simp; omega) | fail) ?_) | (refine now_E (fun hq => ?_) (fun hq => ?_)) | (refine now_N (fun hq => ?_) (fun hq => ?_)) | (refine now_D (fun hq => ?_) (fun hq => ?_)) | (refine rb (x := true) (by first | rfl | (simp; done) | (simp; omega) | (simp [*]; done) | (simp [*]; omega) | fail) ?_) | (refine rb (x := false) (by first | rfl | (simp; done) | (simp; omega) | (simp [*]; done) | (simp [*]; omega) | fail) ?_) | (refine rb (by first | rfl | (simp; done) | (simp; omega) | (simp [*]; done) | (simp [*]; omega) | fail) ?_) | (refine ri (by first | rfl | omega | (rw [wrap_id] <;> omega) | (simp; omega) | (simp [*]; done) | fail) ?_) | (refine And.intro (by first | (simp [hh]; done) | exact trivial | rfl | decide | exact Nat.le_of_ble_eq_true rfl | assumption | exact ⟨rfl, Nat.le_of_ble_eq_true rfl⟩ | exact ⟨trivial, rfl⟩ | exact ⟨⟨trivial, rfl⟩, rfl⟩ | omega | (simp; done) | (simp; omega) | (simp [*]; done) | fail) ?_) | (fail))
        refine wpC_loop (α := Nat) (fun i => {sl := [(0, .t (MM.fds L)), (32, .t (.slice 9 (rs.map encS))), (33, .t (I rs.length)), (34, .t (I i))], bx := []})
          (fun i => i ≤ rs.length ∧ ∀ j (h : j < rs.length), j < i → fewB L rs[j] = true) (fun i => rs.length - i) 0 (by simp) ?_ ?_
        · repeat' (first | (exact trivial) | (exact LeV.same _) | (exact LeB.same _) | (exact rfl) | (exact fun _ _ _ => trivial) | (exact leI (by first | omega | (rw [wrap_id] <;> omega) | (simp; omega) | (simp [*]; done) | fail)) | (exact LeV.nil _ _ _) | (exact leB (by first | rfl | (simp; done) | (simp [*]; done) | (simp [*]; omega) | fail)) | (refine leBd ?_) | (refine leOwn ?_) | (refine And.intro ?_ ?_))
        rintro i ⟨hi, hp⟩
        rcases Nat.lt_or_ge i rs.length with h | h
        · obtain ⟨w1, w2⟩ := hr _ (List.getElem_mem h)
          have c48 := h48 rs[i] w1 w2
          cases hb : fewB L rs[i] with
          | true =>
            rw [hb] at c48
            have c48 : DCalls Try.prog 48 [MM.fds L, .agg ([] ++ (cellsS rs[i] ++ []))] (.bool true) := by simpa using c48
            repeat' ((conv => whnf); first | (exact trivial) | (refine now_v (.agg (cellsS rs[i])) (by first | (simp [h, encS_cells]; done) | fail) ?_) | (refine k_call _ (c48) ?_) | (refine now_T ?_) | (refine now_E1 (by first | omega | (simp; done) | (simp; omega) | fail) ?_) | (refine now_E0 (by first | omega | (simp; done) | (simp; omega) | fail) ?_) | (refine now_N1 (by first | omega | (simp; done) | (simp; omega) | fail) ?_) | (refine now_N0 (by first | omega | (simp; done) | (simp; omega) | fail) ?_) | (refine now_D1 (by first | omega | (simp; done) | (simp; omega) | fail) ?_) | (refine now_D0 (by first | omega | (simp; done) | (simp; omega) | fail) ?_) | (refine now_E (fun hq => ?_) (fun hq => ?_)) | (refine now_N (fun hq => ?_) (fun hq => ?_)) | (refine now_D (fun hq => ?_) (fun hq => ?_)) | (refine rb (x := true) (by first | rfl | (simp; done) | (simp; omega) | (simp [*]; done) | (simp [*]; omega) | fail) ?_) | (refine rb (x := false) (by first | rfl | (simp; done) | (simp; omega) | (simp [*]; done) | (simp [*]; omega) | fail) ?_) | (refine rb (by first | rfl | (simp; done) | (simp; omega) | (simp [*]; done) | (simp [*]; omega) | fail) ?_) | (refine ri (by first | rfl | omega | (rw [wrap_id] <;> omega) | (simp; omega) | (simp [*]; done) | fail) ?_) | (refine And.intro (by first | (exact cellsS_len _; done) | (exact ⟨cellsS_len _, Nat.le_refl 9⟩; done) | exact trivial | rfl | decide | exact Nat.le_of_ble_eq_true rfl | assumption | exact ⟨rfl, Nat.le_of_ble_eq_true rfl⟩ | exact ⟨trivial, rfl⟩ | exact ⟨⟨trivial, rfl⟩, rfl⟩ | omega | (simp; done) | (simp; omega) | (simp [*]; done) | fail) ?_) | (fail))
            refine ⟨i + 1, ⟨h, fun j hj hlt => ?_⟩, by omega, ?_⟩
            · rcases Nat.lt_or_ge j i with h4 | h4
              · exact hp j hj h4
              · obtain rfl : j = i := by omega
                exact hb
            · repeat' (first | (exact trivial) | (exact LeV.same _) | (exact LeB.same _) | (exact rfl) | (exact fun _ _ _ => trivial) | (exact leI (by first | omega | (rw [wrap_id] <;> omega) | (simp; omega) | (simp [*]; done) | fail)) | (exact LeV.nil _ _ _) | (exact leB (by first | rfl | (simp; done) | (simp [*]; done) | (simp [*]; omega) | fail)) | (refine leBd ?_) | (refine leOwn ?_) | (refine And.intro ?_ ?_))
          | false =>
            rw [hb] at c48
            have e2 : (rs.all fun r => fewB L r) = false := by
              rw [List.all_eq_false]
              exact ⟨_, List.getElem_mem h, by simp [hb]⟩
            rw [e2]
            have c48 : DCalls Try.prog 48 [MM.fds L, .agg ([] ++ (cellsS rs[i] ++ []))] (.bool false) := by simpa using c48
            repeat' ((conv => whnf); first | (exact trivial) | (refine now_v (.agg (cellsS rs[i])) (by first | (simp [h, encS_cells]; done) | fail) ?_) | (refine k_call _ (c48) ?_) | (refine now_T ?_) | (refine now_E1 (by first | omega | (simp; done) | (simp; omega) | fail) ?_) | (refine now_E0 (by first | omega | (simp; done) | (simp; omega) | fail) ?_) | (refine now_N1 (by first | omega | (simp; done) | (simp; omega) | fail) ?_) | (refine now_N0 (by first | omega | (simp; done) | (simp; omega) | fail) ?_) | (refine now_D1 (by first | omega | (simp; done) | (simp; omega) | fail) ?_) | (refine now_D0 (by first | omega | (simp; done) | (simp; omega) | fail) ?_) | (refine now_E (fun hq => ?_) (fun hq => ?_)) | (refine now_N (fun hq => ?_) (fun hq => ?_)) | (refine now_D (fun hq => ?_) (fun hq => ?_)) | (refine rb (x := true) (by first | rfl | (simp; done) | (simp; omega) | (simp [*]; done) | (simp [*]; omega) | fail) ?_) | (refine rb (x := false) (by first | rfl | (simp; done) | (simp; omega) | (simp [*]; done) | (simp [*]; omega) | fail) ?_) | (refine rb (by first | rfl | (simp; done) | (simp; omega) | (simp [*]; done) | (simp [*]; omega) | fail) ?_) | (refine ri (by first | rfl | omega | (rw [wrap_id] <;> omega) | (simp; omega) | (simp [*]; done) | fail) ?_) | (refine And.intro (by first | (exact cellsS_len _; done) | (exact ⟨cellsS_len _, Nat.le_refl 9⟩; done) | exact trivial | rfl | decide | exact Nat.le_of_ble_eq_true rfl | assumption | exact ⟨rfl, Nat.le_of_ble_eq_true rfl⟩ | exact ⟨trivial, rfl⟩ | exact ⟨⟨trivial, rfl⟩, rfl⟩ | omega | (simp; done) | (simp; omega) | (simp [*]; done) | fail) ?_) | (fail))
        · have e2 : (rs.all fun r => fewB L r) = true := by
            rw [List.all_eq_true]
            intro r hr
            obtain ⟨j, hj, rfl⟩ := List.getElem_of_mem hr
            exact hp j hj (by omega)
          rw [e2]
          repeat' ((conv => whnf); first | (exact trivial) | (refine now_T ?_) | (refine now_E1 (by first | omega | (simp; done) | (simp; omega) | fail) ?_) | (refine now_E0 (by first | omega | (simp; done) | (simp; omega) | fail) ?_) | (refine now_N1 (by first | omega | (simp; done) | (simp; omega) | fail) ?_) | (refine now_N0 (by first | omega | (simp; done) | (simp; omega) | fail) ?_) | (refine now_D1 (by first | omega | (simp; done) | (simp; omega) | fail) ?_) | (refine now_D0 (by first | omega | (simp; done) | (simp; omega) | fail) ?_) | (refine now_E (fun hq => ?_) (fun hq => ?_)) | (refine now_N (fun hq => ?_) (fun hq => ?_)) | (refine now_D (fun hq => ?_) (fun hq => ?_)) | (refine rb (x := true) (by first | rfl | (simp; done) | (simp; omega) | (simp [*]; done) | (simp [*]; omega) | fail) ?_) | (refine rb (x := false) (by first | rfl | (simp; done) | (simp; omega) | (simp [*]; done) | (simp [*]; omega) | fail) ?_) | (refine rb (by first | rfl | (simp; done) | (simp; omega) | (simp [*]; done) | (simp [*]; omega) | fail) ?_) | (refine ri (by first | rfl | omega | (rw [wrap_id] <;> omega) | (simp; omega) | (simp [*]; done) | fail) ?_) | (refine And.intro (by first | exact trivial | rfl | decide | exact Nat.le_of_ble_eq_true rfl | assumption | exact ⟨rfl, Nat.le_of_ble_eq_true rfl⟩ | exact ⟨trivial, rfl⟩ | exact ⟨⟨trivial, rfl⟩, rfl⟩ | omega | (simp; done) | (simp; omega) | (simp [*]; done) | fail) ?_) | (fail))
      · have e : ((0 : Int) == 0 && true && decide (0 ≤ tick) && decide (tick ≤ 1073741824) && rs.all fun r => fewB L r) = false := by simp [t0, t1]
        rw [e]
        repeat' ((conv => whnf); first | (exact trivial) | (refine k_call _ (h47) ?_) | (refine k_call _ (h11) ?_) | (refine now_T ?_) | (refine now_E1 (by first | omega | (simp; done) | (simp; omega) | fail) ?_) | (refine now_E0 (by first | omega | (simp; done) | (simp; omega) | fail) ?_) | (refine now_N1 (by first | omega | (simp; done) | (simp; omega) | fail) ?_) | (refine now_N0 (by first | omega | (simp; done) | (simp; omega) | fail) ?_) | (refine now_D1 (by first | omega | (simp; done) | (simp; omega) | fail) ?_) | (refine now_D0 (by first | omega | (simp; done) | (simp; omega) | fail) ?_) | (refine now_E (fun hq => ?_) (fun hq => ?_)) | (refine now_N (fun hq => ?_) (fun hq => ?_)) | (refine now_D (fun hq => ?_) (fun hq => ?_)) | (refine rb (x := true) (by first | rfl | (simp; done) | (simp; omega) | (simp [*]; done) | (simp [*]; omega) | fail) ?_) | (refine rb (x := false) (by first | rfl | (simp; done) | (simp; omega) | (simp [*]; done) | (simp [*]; omega) | fail) ?_) | (refine rb (by first | rfl | (simp; done) | (simp; omega) | (simp [*]; done) | (simp [*]; omega) | fail) ?_) | (refine ri (by first | rfl | omega | (rw [wrap_id] <;> omega) | (simp; omega) | (simp [*]; done) | fail) ?_) | (refine And.intro (by first | (simp [hh]; done) | exact trivial | rfl | decide | exact Nat.le_of_ble_eq_true rfl | assumption | exact ⟨rfl, Nat.le_of_ble_eq_true rfl⟩ | exact ⟨trivial, rfl⟩ | exact ⟨⟨trivial, rfl⟩, rfl⟩ | omega | (simp; done) | (simp; omega) | (simp [*]; done) | fail) ?_) | (fail))
    · have e : ((0 : Int) == 0 && true && decide (0 ≤ tick) && decide (tick ≤ 1073741824) && rs.all fun r => fewB L r) = false := by simp [t0]
      rw [e]
      repeat' ((conv => whnf); first | (exact trivial) | (refine k_call _ (h47) ?_) | (refine k_call _ (h11) ?_) | (refine now_T ?_) | (refine now_E1 (by first | omega | (simp; done) | (simp; omega) | fail) ?_) | (refine now_E0 (by first | omega | (simp; done) | (simp; omega) | fail) ?_) | (refine now_N1 (by first | omega | (simp; done) | (simp; omega) | fail) ?_) | (refine now_N0 (by first | omega | (simp; done) | (simp; omega) | fail) ?_) | (refine now_D1 (by first | omega | (simp; done) | (simp; omega) | fail) ?_) | (refine now_D0 (by first | omega | (simp; done) | (simp; omega) | fail) ?_) | (refine now_E (fun hq => ?_) (fun hq => ?_)) | (refine now_N (fun hq => ?_) (fun hq => ?_)) | (refine now_D (fun hq => ?_) (fun hq => ?_)) | (refine rb (x := true) (by first | rfl | (simp; done) | (simp; omega) | (simp [*]; done) | (simp [*]; omega) | fail) ?_) | (refine rb (x := false) (by first | rfl | (simp; done) | (simp; omega) | (simp [*]; done) | (simp [*]; omega) | fail) ?_) | (refine rb (by first | rfl | (simp; done) | (simp; omega) | (simp [*]; done) | (simp [*]; omega) | fail) ?_) | (refine ri (by first | rfl | omega | (rw [wrap_id] <;> omega) | (simp; omega) | (simp [*]; done) | fail) ?_) | (refine And.intro (by first | (simp [hh]; done) | exact trivial | rfl | decide | exact Nat.le_of_ble_eq_true rfl | assumption | exact ⟨rfl, Nat.le_of_ble_eq_true rfl⟩ | exact ⟨trivial, rfl⟩ | exact ⟨⟨trivial, rfl⟩, rfl⟩ | omega | (simp; done) | (simp; omega) | (simp [*]; done) | fail) ?_) | (fail))
  · have e : (checkF l == 0) = false := by simpa using hc
    rw [e]
    generalize checkF l = c at *
    repeat' ((conv => whnf); first | (exact trivial) | (refine k_call _ (h47) ?_) | (refine now_T ?_) | (refine now_E1 (by first | omega | (simp; done) | (simp; omega) | fail) ?_) | (refine now_E0 (by first | omega | (simp; done) | (simp; omega) | fail) ?_) | (refine now_N1 (by first | omega | (simp; done) | (simp; omega) | fail) ?_) | (refine now_N0 (by first | omega | (simp; done) | (simp; omega) | fail) ?_) | (refine now_D1 (by first | omega | (simp; done) | (simp; omega) | fail) ?_) | (refine now_D0 (by first | omega | (simp; done) | (simp; omega) | fail) ?_) | (refine now_E (fun hq => ?_) (fun hq => ?_)) | (refine now_N (fun hq => ?_) (fun hq => ?_)) | (refine now_D (fun hq => ?_) (fun hq => ?_)) | (refine rb (x := true) (by first | rfl | (simp; done) | (simp; omega) | (simp [*]; done) | (simp [*]; omega) | fail) ?_) | (refine rb (x := false) (by first | rfl | (simp; done) | (simp; omega) | (simp [*]; done) | (simp [*]; omega) | fail) ?_) | (refine rb (by first | rfl | (simp; done) | (simp; omega) | (simp [*]; done) | (simp [*]; omega) | fail) ?_) | (refine ri (by first | rfl | omega | (rw [wrap_id] <;> omega) | (simp; omega) | (simp [*]; done) | fail) ?_) | (refine And.intro (by first | (simp [hh]; done) | exact trivial | rfl | decide | exact Nat.le_of_ble_eq_true rfl | assumption | exact ⟨rfl, Nat.le_of_ble_eq_true rfl⟩ | exact ⟨trivial, rfl⟩ | exact ⟨⟨trivial, rfl⟩, rfl⟩ | omega | (simp; done) | (simp; omega) | (simp [*]; done) | fail) ?_) | (fail))
end Go.MM
end
section
/- Meaning: what the arguments of the statements read as. -/
namespace Go.MM
open Go Go.DL Go.Proofs
set_option maxRecDepth 100000
set_option maxHeartbeats 4000000

/-- The types of the arguments. -/
def types : List TypeId := [3, 9, 22, 24, 32, 86, 33, 35, 36, 38]
theorem und33 : Try.prog.underlying 33 = some (.slice 35) := by kernel_rfl
theorem und36 : Try.prog.underlying 36 = some (.slice 38) := by kernel_rfl
theorem types_ok : closedB Try.prog types = true := by kernel_rfl

theorem cells3 : Try.prog.cellsOf 3 = 1 := by kernel_rfl
theorem cells24 : Try.prog.cellsOf 24 = 10 := by kernel_rfl

theorem hasInt {us : List T} (h : HasC Try.prog 3 us) : ∃ n, us = [I n] ∧ (Lit.int .i64 n).wf = true := by
  cases h with
  | int h n hw => rw [Try.underlying3] at h; cases h; exact ⟨n, rfl, hw⟩
  | bool h | str h | nil h | slice h | struct h | array h => rw [Try.underlying3] at h; cases h

theorem hasHead {us : List T} (h : HasC Try.prog 24 us) : ∃ x : List Int, us = x.map I ∧ x.length = 10 ∧ ∀ n ∈ x, (Lit.int .i64 n).wf = true := by
  cases h with
  | array h us hl hf =>
    rw [Try.underlying24] at h
    cases h
    rw [cells24] at hl
    have key : ∀ i, i < 10 → ∃ n, us[i]? = some (I n) ∧ (Lit.int .i64 n).wf = true := fun i hi => by
      obtain ⟨n, e, w⟩ := hasInt (hf i hi)
      rw [cells3, Nat.mul_one, List.take_one] at e
      refine ⟨n, ?_, w⟩
      have : (us.drop i).head? = us[i]? := by rw [List.head?_drop]
      rw [this] at e
      cases hx : us[i]? with
      | none => rw [hx] at e; cases e
      | some x => rw [hx] at e; cases e; rfl
    refine ⟨us.map fun t => match t with | .int _ n => n | _ => 0, ?_, by simpa using hl, fun n hn => ?_⟩
    · refine List.ext_getElem? fun i => ?_
      rcases Nat.lt_or_ge i 10 with hi | hi
      · obtain ⟨n, e, _⟩ := key i hi
        rw [e]
        simp [e]
      · rw [List.getElem?_eq_none (by omega), List.getElem?_eq_none (by simp; omega)]
    · obtain ⟨t, ht, rfl⟩ := List.mem_map.1 hn
      obtain ⟨i, hi⟩ := List.mem_iff_getElem?.1 ht
      obtain ⟨n, e, w⟩ := key i (by have := (List.getElem?_eq_some_iff.1 hi).1; omega)
      rw [e] at hi
      cases hi
      exact w
  | int h | bool h | str h | nil h | slice h | struct h => rw [Try.underlying24] at h; cases h

theorem mk24 (us : List T) : mkT Try.prog 24 us = .agg us := by unfold mkT; rw [Try.underlying24]

/-- A set of heads, as it is read: nil, or words. -/
theorem hasHeads {us : List T} (h : HasC Try.prog 22 us) : ∃ a : List (List Int), Len10 a ∧ a.length < 2 ^ 63 ∧ (∀ x ∈ a, ∀ n ∈ x, (Lit.int .i64 n).wf = true) ∧
    (mkT Try.prog 22 us = heads a ∨ (mkT Try.prog 22 us = .nil ∧ a = [])) := by
  have e : ∀ t, mkT Try.prog 22 [t] = t := fun t => by unfold mkT; rw [Try.underlying22]; rfl
  cases h with
  | nil h => exact ⟨[], by simp [Len10], by decide, by simp, .inr ⟨e _, rfl⟩⟩
  | slice h xs hx hl =>
    rw [Try.underlying22] at h
    cases h
    have h0 : ∀ x : List T, ∃ y : List Int, x ∈ xs → x = y.map I ∧ y.length = 10 ∧ ∀ n ∈ y, (Lit.int .i64 n).wf = true := fun x => by
      by_cases hm : x ∈ xs
      · obtain ⟨y, hy⟩ := hasHead (hx x hm)
        exact ⟨y, fun _ => hy⟩
      · exact ⟨[], fun h => absurd h hm⟩
    obtain ⟨f, hf⟩ := Classical.axiomOfChoice h0
    refine ⟨xs.map f, fun y hy => ?_, ?_, fun y hy => ?_, .inl ?_⟩
    · obtain ⟨x, hm, rfl⟩ := List.mem_map.1 hy
      exact (hf x hm).2.1
    · rw [List.length_map]
      exact Nat.lt_of_le_of_lt hl (by decide)
    · obtain ⟨x, hm, rfl⟩ := List.mem_map.1 hy
      exact (hf x hm).2.2
    · rw [e, cells24]
      unfold heads
      congr 1
      rw [List.map_map]
      refine List.map_congr_left fun x hm => ?_
      rw [mk24]
      unfold hd
      rw [Function.comp, ← (hf x hm).1]
  | int h | bool h | str h | array h | struct h => rw [Try.underlying22] at h; cases h

end Go.MM
end
section
/- Data that say less: whatever reads as the one reads as the other. -/
namespace Go.DL
open Go

/-- Whatever reads as t reads as u. -/
def Les (t u : T) : Prop := ∀ (S : Stable) (w : World) (v : Value), Rep S w v t → Rep S w v u
theorem Les.refl (t : T) : Les t t := fun _ _ _ h => h
theorem Les.trans {a b c : T} (h : Les a b) (k : Les b c) : Les a c := fun S w v r => k S w v (h S w v r)
/-- The same, cell by cell. -/
structure LesL (ts us : List T) : Prop where
  len : ts.length = us.length
  one : ∀ u ∈ us, u.one = true
  le : ∀ (i : Nat) (t u : T), ts[i]? = some t → us[i]? = some u → Les t u
theorem LesL.nil : LesL [] [] := ⟨rfl, by simp, by simp⟩
theorem LesL.cons {t u : T} {ts us : List T} (h : Les t u) (h1 : u.one = true) (k : LesL ts us) : LesL (t :: ts) (u :: us) := by
  refine ⟨by simp [k.len], fun x hx => ?_, fun i a b ha hb => ?_⟩
  · rcases List.mem_cons.1 hx with rfl | hx
    · exact h1
    · exact k.one x hx
  · cases i with
    | zero => simp at ha hb; subst ha; subst hb; exact h
    | succ i => exact k.le i a b (by simpa using ha) (by simpa using hb)
theorem LesL.append {ts us ts' us' : List T} (h : LesL ts us) (k : LesL ts' us') : LesL (ts ++ ts') (us ++ us') := by
  refine ⟨by simp [h.len, k.len], fun x hx => ?_, fun i a b ha hb => ?_⟩
  · rcases List.mem_append.1 hx with hx | hx
    · exact h.one x hx
    · exact k.one x hx
  · rcases Nat.lt_or_ge i ts.length with hi | hi
    · rw [List.getElem?_append_left hi] at ha
      rw [List.getElem?_append_left (by rw [← h.len]; exact hi)] at hb
      exact h.le i a b ha hb
    · rw [List.getElem?_append_right hi] at ha
      rw [List.getElem?_append_right (by rw [← h.len]; exact hi), ← h.len] at hb
      exact k.le _ a b ha hb
theorem Les.nil (n : Nat) : Les .nil (.slice n []) := fun _ _ _ h => Rep.nil_slice n h
theorem Les.agg {ts us : List T} (h : LesL ts us) : Les (.agg ts) (.agg us) := fun S w v r => by
  cases r with
  | agg cs _ hs h1 hc =>
    refine .agg cs us (hs.trans h.len) h.one fun i x u hx hu => ?_
    have hlt : i < ts.length := by rw [h.len]; exact (List.getElem?_eq_some_iff.1 hu).1
    exact h.le i ts[i] u (by simp [hlt]) hu S w x (hc i x ts[i] hx (by simp [hlt]))
theorem LesL.flat {n : Nat} : ∀ {xs ys : List T}, xs.length = ys.length → (∀ (i : Nat) (x y : T), xs[i]? = some x → ys[i]? = some y → LesL x.cells y.cells ∧ y.cells.length = n) → LesL (xs.flatMap T.cells) (ys.flatMap T.cells)
  | [], [], _, _ => .nil
  | x :: xs, y :: ys, hl, h => by
    simp only [List.flatMap_cons]
    exact (h 0 x y rfl rfl).1.append (LesL.flat (n := n) (by simpa using hl) fun i a b ha hb => h (i + 1) a b (by simpa using ha) (by simpa using hb))
  | [], _ :: _, hl, _ => by simp at hl
  | _ :: _, [], hl, _ => by simp at hl
theorem Les.slice {n : Nat} {xs ys : List T} (hl : xs.length = ys.length) (h : ∀ (i : Nat) (x y : T), xs[i]? = some x → ys[i]? = some y → LesL x.cells y.cells ∧ y.cells.length = n) : Les (.slice n xs) (.slice n ys) := fun S w v r => by
  have hf := LesL.flat hl h
  cases r with
  | slice a b o len cap _ _ g hl2 hc hu h1 ha hg hr =>
    refine .slice a b o len cap n ys g (by omega) hc (fun y hy => ?_) hf.one (fun h0 => ha (by rw [hf.len]; exact h0)) (fun i hi => hg i (by rw [hf.len]; exact hi)) fun i u hu => ?_
    · obtain ⟨i, hi, rfl⟩ := List.getElem_of_mem hy
      exact (h i xs[i] ys[i] (by simp [show i < xs.length by omega]) (by simp [hi])).2
    · have hlt : i < (xs.flatMap T.cells).length := by rw [hf.len]; exact (List.getElem?_eq_some_iff.1 hu).1
      exact hf.le i _ u (List.getElem?_eq_getElem hlt) hu S w (g i) (hr i _ (List.getElem?_eq_getElem hlt))

theorem DCalls.les {P : Program} {f : FuncId} {ts us : List T} {r : T} (hl : ts.length = us.length) (hle : ∀ (i : Nat) (t u : T), ts[i]? = some t → us[i]? = some u → Les t u) (h : DCalls P f us r) : DCalls P f ts r :=
  h.less hl fun S w i v t u ht hu hr => hle i t u ht hu S w v hr
/-- Arguments that say less. -/
def lesAll : List T → List T → Prop
  | [], [] => True
  | t :: ts, u :: us => Les t u ∧ lesAll ts us
  | _, _ => False
theorem lesAll_len : ∀ {ts us : List T}, lesAll ts us → ts.length = us.length
  | [], [], _ => rfl
  | t :: ts, u :: us, h => by simp [lesAll_len h.2]
theorem lesAll_get : ∀ {ts us : List T}, lesAll ts us → ∀ (i : Nat) (t u : T), ts[i]? = some t → us[i]? = some u → Les t u
  | [], [], _, i, t, u, h, _ => by simp at h
  | a :: ts, b :: us, h, i, t, u, ht, hu => by
    cases i with
    | zero => simp at ht hu; subst ht; subst hu; exact h.1
    | succ i => exact lesAll_get h.2 i t u (by simpa using ht) (by simpa using hu)
theorem DCalls.lesAll {P : Program} {f : FuncId} {ts us : List T} {r : T} (h : DCalls P f us r) (hle : lesAll ts us) : DCalls P f ts r :=
  DCalls.les (lesAll_len hle) (lesAll_get hle) h

end Go.DL
end
section
/- Meaning: fields, predicates and policies out of what is read. -/
namespace Go.MM
open Go Go.DL Go.Proofs
set_option maxRecDepth 100000
set_option maxHeartbeats 4000000

theorem cells9 : Try.prog.cellsOf 9 = 1 := by kernel_rfl
theorem cells33 : Try.prog.cellsOf 33 = 1 := by kernel_rfl
theorem cells35 : Try.prog.cellsOf 35 = 5 := by kernel_rfl
theorem cells36 : Try.prog.cellsOf 36 = 1 := by kernel_rfl
theorem cells38 : Try.prog.cellsOf 38 = 9 := by kernel_rfl
theorem cells86 : Try.prog.cellsOf 86 = 3 := by kernel_rfl
theorem mk35 (us : List T) : mkT Try.prog 35 us = .agg us := by unfold mkT; rw [Try.underlying35]
theorem mk38 (us : List T) : mkT Try.prog 38 us = .agg us := by unfold mkT; rw [Try.underlying38]
theorem mk86 (us : List T) : mkT Try.prog 86 us = .agg us := by unfold mkT; rw [Try.underlying86]
theorem und9 : Try.prog.underlying 9 = some .string := by kernel_rfl

theorem hasStr {us : List T} (h : HasC Try.prog 9 us) : ∃ s, us = [.str s] := by
  cases h with
  | str h s hs => exact ⟨s, rfl⟩
  | bool h | int h | nil h | slice h | struct h | array h => rw [und9] at h; cases h

/-- What the reading of a predicate, or of a list of them, gives. -/
def RdP (us : List T) : Prop := ∃ r : RP, LesL us (cellsR r) ∧ r.nodes ≤ bulkL us ∧ (bulkL us < 2 ^ 62 → namesP r)
def RdPs (us : List T) : Prop := ∃ rs : List RP, LesL us [.slice 5 (rs.map encR)] ∧ nodesPs rs + 1 ≤ bulkL us ∧ (bulkL us < 2 ^ 62 → namesPs rs)

theorem rdPs_of {xs : List (List T)} (h : ∀ x ∈ xs, RdP x) : ∃ rs : List RP, rs.length = xs.length ∧ (∀ (i : Nat) (x : List T) (r : RP), xs[i]? = some x → rs[i]? = some r → LesL x (cellsR r)) ∧ nodesPs rs ≤ bulkL (xs.map .agg) ∧ (bulkL (xs.map .agg) < 2 ^ 62 → namesPs rs) := by
  induction xs with
  | nil => exact ⟨[], rfl, by simp, by simp [nodesPs], fun _ => trivial⟩
  | cons x xs ih =>
    obtain ⟨r, h1, h2, h3⟩ := h x (by simp)
    obtain ⟨rs, k1, k2, k3, k4⟩ := ih fun y hy => h y (by simp [hy])
    refine ⟨r :: rs, by simp [k1], fun i a b ha hb => ?_, ?_, fun hb => ?_⟩
    · cases i with
      | zero => simp at ha hb; subst ha; subst hb; exact h1
      | succ i => exact k2 i a b (by simpa using ha) (by simpa using hb)
    · simp only [nodesPs, List.map_cons, bulkL, T.bulk]; omega
    · simp only [List.map_cons, bulkL, T.bulk] at hb
      exact ⟨h3 (by omega), k4 (by omega)⟩

theorem lesI (n : Int) : Les (I n) (I n) := Les.refl _
theorem list5 {us : List T} (h : us.length = 5) : ∃ a b c d e, us = [a, b, c, d, e] := by
  match us, h with
  | [a, b, c, d, e], _ => exact ⟨a, b, c, d, e, rfl⟩

theorem rd_pred {t : TypeId} {us : List T} (h : HasC Try.prog t us) : (t = 35 → RdP us) ∧ (t = 33 → RdPs us) := by
  induction h with
  | bool h b => exact ⟨fun e => (by subst e; rw [Try.underlying35] at h; cases h), fun e => (by subst e; rw [und33] at h; cases h)⟩
  | int h n hw => exact ⟨fun e => (by subst e; rw [Try.underlying35] at h; cases h), fun e => (by subst e; rw [und33] at h; cases h)⟩
  | str h s hs => exact ⟨fun e => (by subst e; rw [Try.underlying35] at h; cases h), fun e => (by subst e; rw [und33] at h; cases h)⟩
  | array h us hl hf ih => exact ⟨fun e => (by subst e; rw [Try.underlying35] at h; cases h), fun e => (by subst e; rw [und33] at h; cases h)⟩
  | nil h =>
    refine ⟨fun e => (by subst e; rw [Try.underlying35] at h; cases h), fun e => ?_⟩
    exact ⟨[], .cons (Les.nil 5) rfl .nil, by simp [nodesPs, bulkL, T.bulk], fun _ => trivial⟩
  | slice h xs hx hl ih =>
    refine ⟨fun e => (by subst e; rw [Try.underlying35] at h; cases h), fun e => ?_⟩
    subst e
    rw [und33] at h
    cases h
    obtain ⟨rs, k1, k2, k3, k4⟩ := rdPs_of (xs := xs) fun x hm => (ih x hm).1 rfl
    have em : xs.map (mkT Try.prog 35) = xs.map .agg := List.map_congr_left fun x _ => mk35 x
    rw [em, cells35]
    refine ⟨rs, .cons (Les.slice (by simp [k1]) fun i x y hx hy => ?_) rfl .nil, by simp only [bulkL, T.bulk]; omega, fun hb => k4 (by simp only [bulkL, T.bulk] at hb; omega)⟩
    rw [List.getElem?_map] at hx hy
    obtain ⟨x', hx', rfl⟩ := Option.map_eq_some_iff.1 hx
    obtain ⟨r', hr', rfl⟩ := Option.map_eq_some_iff.1 hy
    rw [encR_cells]
    exact ⟨k2 i x' r' hx' hr', cellsR_len r'⟩
  | struct h us hl hf ih =>
    refine ⟨fun e => ?_, fun e => (by subst e; rw [und33] at h; cases h)⟩
    subst e
    rw [Try.underlying35] at h
    cases h
    rw [cells35] at hl
    obtain ⟨a, b, c, d, e, rfl⟩ := list5 hl
    have f0 := hf ⟨ "Kind", 3, 0, false, "", "", 0⟩ (by simp)
    have f1 := hf ⟨ "Field", 9, 1, false, "", "", 8⟩ (by simp)
    have f2 := hf ⟨ "N", 3, 2, false, "", "", 24⟩ (by simp)
    have f3 := hf ⟨ "M", 3, 3, false, "", "", 32⟩ (by simp)
    have f4 := (ih ⟨ "Args", 33, 4, false, "", "", 40⟩ (by simp)).2 rfl
    simp only [cells3, cells9, cells33, List.drop, List.take] at f0 f1 f2 f3 f4
    obtain ⟨k, e0, _⟩ := hasInt f0
    obtain ⟨s, e1⟩ := hasStr f1
    obtain ⟨n, e2, _⟩ := hasInt f2
    obtain ⟨m, e3, _⟩ := hasInt f3
    obtain ⟨rs, g1, g2, g3⟩ := f4
    simp only [List.cons.injEq, and_true] at e0 e1 e2 e3
    subst e0; subst e1; subst e2; subst e3
    refine ⟨.mk k s n m rs, .cons (Les.refl _) rfl (.cons (Les.refl _) rfl (.cons (Les.refl _) rfl (.cons (Les.refl _) rfl g1))), ?_, fun hb => ?_⟩
    · simp only [RP.nodes, bulkL, T.bulk] at g2 ⊢; omega
    · simp only [bulkL, T.bulk] at g3 hb
      exact ⟨by omega, g3 (by omega)⟩

def RdO (us : List T) : Prop := ∃ r : RO, LesL us (cellsS r) ∧ r.wt ≤ bulkL us ∧ (bulkL us < 2 ^ 62 → namesO r)
def RdOs (us : List T) : Prop := ∃ rs : List RO, LesL us [.slice 9 (rs.map encS)] ∧ wtSs rs + 1 ≤ bulkL us ∧ (bulkL us < 2 ^ 62 → namesOs rs)
theorem rdOs_of {xs : List (List T)} (h : ∀ x ∈ xs, RdO x) : ∃ rs : List RO, rs.length = xs.length ∧ (∀ (i : Nat) (x : List T) (r : RO), xs[i]? = some x → rs[i]? = some r → LesL x (cellsS r)) ∧ wtSs rs ≤ bulkL (xs.map .agg) ∧ (bulkL (xs.map .agg) < 2 ^ 62 → namesOs rs) := by
  induction xs with
  | nil => exact ⟨[], rfl, by simp, by simp [wtSs], fun _ => trivial⟩
  | cons x xs ih =>
    obtain ⟨r, h1, h2, h3⟩ := h x (by simp)
    obtain ⟨rs, k1, k2, k3, k4⟩ := ih fun y hy => h y (by simp [hy])
    refine ⟨r :: rs, by simp [k1], fun i a b ha hb => ?_, ?_, fun hb => ?_⟩
    · cases i with
      | zero => simp at ha hb; subst ha; subst hb; exact h1
      | succ i => exact k2 i a b (by simpa using ha) (by simpa using hb)
    · simp only [wtSs, List.map_cons, bulkL, T.bulk]; omega
    · simp only [List.map_cons, bulkL, T.bulk] at hb
      exact ⟨h3 (by omega), k4 (by omega)⟩
theorem list9 {us : List T} (h : us.length = 9) : ∃ a b c d e f g i j, us = [a, b, c, d, e, f, g, i, j] := by
  match us, h with
  | [a, b, c, d, e, f, g, i, j], _ => exact ⟨a, b, c, d, e, f, g, i, j, rfl⟩
theorem LesL.tail5 {a b c d e : T} {r : RP} (h : LesL [a, b, c, d, e] (cellsR r)) {x y : T} {xs ys : List T} (k : LesL (x :: xs) (y :: ys)) : LesL (a :: b :: c :: d :: e :: x :: xs) (cellsR r ++ y :: ys) := LesL.append h k

theorem rd_policy {t : TypeId} {us : List T} (h : HasC Try.prog t us) : (t = 38 → RdO us) ∧ (t = 36 → RdOs us) := by
  induction h with
  | bool h b => exact ⟨fun e => (by subst e; rw [Try.underlying38] at h; cases h), fun e => (by subst e; rw [und36] at h; cases h)⟩
  | int h n hw => exact ⟨fun e => (by subst e; rw [Try.underlying38] at h; cases h), fun e => (by subst e; rw [und36] at h; cases h)⟩
  | str h s hs => exact ⟨fun e => (by subst e; rw [Try.underlying38] at h; cases h), fun e => (by subst e; rw [und36] at h; cases h)⟩
  | array h us hl hf ih => exact ⟨fun e => (by subst e; rw [Try.underlying38] at h; cases h), fun e => (by subst e; rw [und36] at h; cases h)⟩
  | nil h =>
    refine ⟨fun e => (by subst e; rw [Try.underlying38] at h; cases h), fun e => ?_⟩
    exact ⟨[], .cons (Les.nil 9) rfl .nil, by simp [wtSs, bulkL, T.bulk], fun _ => trivial⟩
  | slice h xs hx hl ih =>
    refine ⟨fun e => (by subst e; rw [Try.underlying38] at h; cases h), fun e => ?_⟩
    subst e
    rw [und36] at h
    cases h
    obtain ⟨rs, k1, k2, k3, k4⟩ := rdOs_of (xs := xs) fun x hm => (ih x hm).1 rfl
    have em : xs.map (mkT Try.prog 38) = xs.map .agg := List.map_congr_left fun x _ => mk38 x
    rw [em, cells38]
    refine ⟨rs, .cons (Les.slice (by simp [k1]) fun i x y hx hy => ?_) rfl .nil, by simp only [bulkL, T.bulk]; omega, fun hb => k4 (by simp only [bulkL, T.bulk] at hb; omega)⟩
    rw [List.getElem?_map] at hx hy
    obtain ⟨x', hx', rfl⟩ := Option.map_eq_some_iff.1 hx
    obtain ⟨r', hr', rfl⟩ := Option.map_eq_some_iff.1 hy
    rw [encS_cells]
    exact ⟨k2 i x' r' hx' hr', cellsS_len r'⟩
  | struct h us hl hf ih =>
    refine ⟨fun e => ?_, fun e => (by subst e; rw [und36] at h; cases h)⟩
    subst e
    rw [Try.underlying38] at h
    cases h
    rw [cells38] at hl
    obtain ⟨a, b, c, d, e, f, g, i, j, rfl⟩ := list9 hl
    have f0 := hf ⟨ "Kind", 3, 0, false, "", "", 0⟩ (by simp)
    have f1 := (rd_pred (hf ⟨ "Pred", 35, 1, false, "", "", 8⟩ (by simp))).1 rfl
    have f2 := hf ⟨ "Field", 9, 6, false, "", "", 72⟩ (by simp)
    have f3 := hf ⟨ "N", 3, 7, false, "", "", 88⟩ (by simp)
    have f4 := (ih ⟨ "Args", 36, 8, false, "", "", 96⟩ (by simp)).2 rfl
    simp only [cells3, cells9, cells35, cells36, List.drop, List.take] at f0 f1 f2 f3 f4
    obtain ⟨k, e0, _⟩ := hasInt f0
    obtain ⟨p, p1, p2, p3⟩ := f1
    obtain ⟨s, e1⟩ := hasStr f2
    obtain ⟨n, e2, _⟩ := hasInt f3
    obtain ⟨rs, g1, g2, g3⟩ := f4
    simp only [List.cons.injEq, and_true] at e0 e1 e2
    subst e0; subst e1; subst e2
    refine ⟨.mk k p s n rs, .cons (Les.refl _) rfl (LesL.tail5 p1 (.cons (Les.refl _) rfl (.cons (Les.refl _) rfl g1))), ?_, fun hb => ?_⟩
    · simp only [RO.wt, bulkL, T.bulk] at p2 g2 ⊢; omega
    · simp only [bulkL, T.bulk] at p3 g3 hb
      exact ⟨p3 (by omega), by omega, g3 (by omega)⟩

/-- What the reading of a list of fields gives. -/
theorem rd_field {us : List T} (h : HasC Try.prog 86 us) : ∃ f : RF, us = cellsF f ∧ f.name.size < bulkL us := by
  cases h with
  | struct h us hl hf =>
    rw [Try.underlying86] at h
    cases h
    rw [cells86] at hl
    match us, hl with
    | [a, b, c], _ =>
      have f0 := hf ⟨ "Name", 9, 0, false, "", "", 0⟩ (by simp)
      have f1 := hf ⟨ "At", 3, 1, false, "", "", 16⟩ (by simp)
      have f2 := hf ⟨ "Width", 3, 2, false, "", "", 24⟩ (by simp)
      simp only [cells3, cells9, List.drop, List.take] at f0 f1 f2
      obtain ⟨s, e0⟩ := hasStr f0
      obtain ⟨n, e1, _⟩ := hasInt f1
      obtain ⟨m, e2, _⟩ := hasInt f2
      simp only [List.cons.injEq, and_true] at e0 e1 e2
      subst e0; subst e1; subst e2
      exact ⟨⟨s, n, m⟩, rfl, by simp [bulkL, T.bulk]; omega⟩
  | int h | bool h | str h | nil h | slice h | array h => rw [Try.underlying86] at h; cases h

theorem rd_fields {us : List T} (h : HasC Try.prog 32 us) : ∃ l : List RF, Les (mkT Try.prog 32 us) (encFs l) ∧ l.length ≤ bulkL us ∧ ∀ f ∈ l, f.name.size < bulkL us := by
  have e : ∀ t, mkT Try.prog 32 [t] = t := fun t => by unfold mkT; rw [Try.underlying32]; rfl
  cases h with
  | nil h => exact ⟨[], by rw [e]; exact Les.nil 3, by simp, by simp⟩
  | slice h xs hx hl =>
    rw [Try.underlying32] at h
    cases h
    rw [e, cells86]
    have em : xs.map (mkT Try.prog 86) = xs.map .agg := List.map_congr_left fun x _ => mk86 x
    rw [em]
    have key : ∃ l : List RF, l.length = xs.length ∧ xs.map .agg = l.map encF ∧ l.length ≤ bulkL (xs.map .agg) ∧ ∀ f ∈ l, f.name.size < bulkL (xs.map .agg) := by
      clear hl em
      induction xs with
      | nil => exact ⟨[], rfl, rfl, by simp, by simp⟩
      | cons x xs ih =>
        obtain ⟨f, h1, h2⟩ := rd_field (hx x (by simp))
        obtain ⟨l, k1, k2, k3, k4⟩ := ih fun y hy => hx y (by simp [hy])
        refine ⟨f :: l, by simp [k1], by simp only [List.map_cons, k2, h1]; rfl, by simp only [List.map_cons, bulkL, T.bulk, List.length_cons]; omega, fun g hg => ?_⟩
        simp only [List.map_cons, bulkL, T.bulk]
        rcases List.mem_cons.1 hg with rfl | hg
        · omega
        · have := k4 g hg; omega
    obtain ⟨l, k1, k2, k3, k4⟩ := key
    refine ⟨l, by rw [k2]; exact Les.refl _, by simp only [bulkL, T.bulk]; omega, fun f hf => by simp only [bulkL, T.bulk]; have := k4 f hf; omega⟩
  | int h | bool h | str h | array h | struct h => rw [Try.underlying32] at h; cases h
end Go.MM
end
section
/- Meaning: formed trees are predicates and policies. -/
namespace Go.MM
open Go Go.DL Go.Proofs
set_option maxRecDepth 100000
set_option maxHeartbeats 4000000

theorem sameN_iff {a b : ByteArray} : sameN a b = true ↔ a = b := by
  unfold sameN
  rw [beq_iff_eq]
  constructor
  · intro h
    cases a; cases b
    congr 1
    exact Array.toList_inj.1 h
  · rintro rfl; rfl

def rawP : Pr → RP
  | .tt => .mk 1 e0 0 0 []
  | .ff => .mk 2 e0 0 0 []
  | .eq f n => .mk 3 f n 0 []
  | .pre f n m => .mk 4 f n m []
  | .rng f n m => .mk 5 f n m []
  | .not p => .mk 6 e0 0 0 [rawP p]
  | .and p q => .mk 7 e0 0 0 [rawP p, rawP q]
  | .or p q => .mk 8 e0 0 0 [rawP p, rawP q]
  | .time n m => .mk 9 e0 n m []
theorem encR_raw : ∀ p : Pr, encR (rawP p) = encP p
  | .tt | .ff | .eq _ _ | .pre _ _ _ | .rng _ _ _ | .time _ _ => rfl
  | .not p => by simp only [rawP, encR, encRs, encR_raw p]; rfl
  | .and p q => by simp only [rawP, encR, encRs, encR_raw p, encR_raw q]; rfl
  | .or p q => by simp only [rawP, encR, encRs, encR_raw p, encR_raw q]; rfl

def zP : RP := .mk 0 e0 0 0 []
def rawO : Po → RO
  | .filter p => .mk 1 (rawP p) e0 0 []
  | .set f n => .mk 2 zP f n []
  | .union a b => .mk 3 zP e0 0 [rawO a, rawO b]
  | .seq a b => .mk 4 zP e0 0 [rawO a, rawO b]
  | .star a => .mk 5 zP e0 0 [rawO a]
theorem cells_raw (p : Pr) : cellsR (rawP p) = (encP p).cells := by
  have := congrArg T.cells (encR_raw p)
  rw [encR_cells] at this
  exact this
theorem encS_raw : ∀ p : Po, encS (rawO p) = encO p
  | .filter p => by simp only [rawO, encS, encSs, cells_raw]; rfl
  | .set f n => rfl
  | .union a b => by simp only [rawO, encS, encSs, encS_raw a, encS_raw b]; rfl
  | .seq a b => by simp only [rawO, encS, encSs, encS_raw a, encS_raw b]; rfl
  | .star a => by simp only [rawO, encS, encSs, encS_raw a]; rfl
theorem cellsS_raw (p : Po) : .agg (cellsS (rawO p)) = encO p := by rw [← encS_cells, encS_raw]

theorem len1 {α : Type} {l : List α} (h : l.length = 1) : ∃ x, l = [x] := List.length_eq_one_iff.1 h
theorem len2 {α : Type} {l : List α} (h : l.length = 2) : ∃ x y, l = [x, y] := by
  match l, h with
  | [x, y], _ => exact ⟨x, y, rfl⟩

theorem noneB_eq {f : ByteArray} {n m : Int} (h : noneB f n m = true) : f = e0 ∧ n = 0 ∧ m = 0 := by
  simp only [noneB, Bool.and_eq_true, beq_iff_eq, sameN_iff] at h
  exact ⟨h.1.1, h.1.2, h.2⟩

theorem formed_pr (N : Nat) : ∀ r : RP, r.nodes ≤ N → formedP r = true → ∃ p, r = rawP p := by
  induction N with
  | zero => intro r h; have := r.nodes_pos; omega
  | succ N ih =>
    rintro ⟨k, f, n, m, l⟩ hr hf
    simp only [RP.nodes] at hr
    simp only [formedP, Bool.and_eq_true, beq_iff_eq] at hf
    obtain ⟨⟨h1, h2⟩, h3⟩ := hf
    unfold okP at h1
    split at h1
    · rename_i hk
      obtain ⟨rfl, rfl, rfl⟩ := noneB_eq h1
      rcases hk with rfl | rfl
      · have : l = [] := List.length_eq_zero_iff.1 h2
        subst this; exact ⟨.tt, rfl⟩
      · have : l = [] := List.length_eq_zero_iff.1 h2
        subst this; exact ⟨.ff, rfl⟩
    split at h1
    · rename_i hk; subst hk
      simp [oneB] at h1
      have : l = [] := List.length_eq_zero_iff.1 h2
      subst this
      refine ⟨.eq f n.toNat, ?_⟩
      simp only [rawP]
      rw [Int.toNat_of_nonneg (by omega), h1.2]
    split at h1
    · rename_i hk; subst hk
      simp [oneB] at h1
      have : l = [] := List.length_eq_zero_iff.1 h2
      subst this
      refine ⟨.pre f n.toNat m.toNat, ?_⟩
      simp only [rawP]
      rw [Int.toNat_of_nonneg (by omega), Int.toNat_of_nonneg (by omega)]
    split at h1
    · rename_i hk; subst hk
      simp at h1
      have : l = [] := List.length_eq_zero_iff.1 h2
      subst this
      refine ⟨.rng f n.toNat m.toNat, ?_⟩
      simp only [rawP]
      rw [Int.toNat_of_nonneg (by omega), Int.toNat_of_nonneg (by omega)]
    split at h1
    · rename_i hk
      obtain ⟨rfl, rfl, rfl⟩ := noneB_eq h1
      rcases hk with rfl | rfl | rfl
      · obtain ⟨x, rfl⟩ := len1 h2
        simp only [formedPs, Bool.and_true] at h3
        simp only [nodesPs] at hr
        obtain ⟨p, rfl⟩ := ih x (by omega) h3
        exact ⟨.not p, rfl⟩
      · obtain ⟨x, y, rfl⟩ := len2 h2
        simp only [formedPs, Bool.and_true, Bool.and_eq_true] at h3
        simp only [nodesPs] at hr
        obtain ⟨p, rfl⟩ := ih x (by omega) h3.1
        obtain ⟨q, rfl⟩ := ih y (by omega) h3.2
        exact ⟨.and p q, rfl⟩
      · obtain ⟨x, y, rfl⟩ := len2 h2
        simp only [formedPs, Bool.and_true, Bool.and_eq_true] at h3
        simp only [nodesPs] at hr
        obtain ⟨p, rfl⟩ := ih x (by omega) h3.1
        obtain ⟨q, rfl⟩ := ih y (by omega) h3.2
        exact ⟨.or p q, rfl⟩
    split at h1
    · rename_i hk; subst hk
      simp only [Bool.and_eq_true, sameN_iff] at h1
      obtain ⟨⟨⟨rfl, _⟩, _⟩, _⟩ := h1
      have : l = [] := List.length_eq_zero_iff.1 h2
      subst this
      exact ⟨.time n m, rfl⟩
    · cases h1

theorem emptyP_eq {p : RP} (h : emptyP p = true) : p = zP := by
  obtain ⟨k, f, n, m, a⟩ := p
  simp only [emptyP, Bool.and_eq_true, beq_iff_eq, sameN_iff, List.length_eq_zero_iff] at h
  obtain ⟨⟨⟨⟨rfl, rfl⟩, rfl⟩, rfl⟩, rfl⟩ := h
  rfl
theorem noneO_eq {f : ByteArray} {n : Int} (h : noneO f n = true) : f = e0 ∧ n = 0 := by
  simpa only [noneO, Bool.and_eq_true, beq_iff_eq, sameN_iff] using h

theorem formed_po (N : Nat) : ∀ r : RO, r.wt ≤ N → formedO r = true → ∃ p, r = rawO p := by
  induction N with
  | zero => intro r h; have := r.wt_pos; omega
  | succ N ih =>
    rintro ⟨k, p, f, n, l⟩ hr hf
    simp only [RO.wt] at hr
    simp only [formedO, Bool.and_eq_true, beq_iff_eq] at hf
    obtain ⟨⟨h1, h2⟩, h3⟩ := hf
    unfold okO at h1
    split at h1
    · rename_i hk; subst hk
      rw [Bool.and_eq_true] at h1
      obtain ⟨hp, hn⟩ := h1
      obtain ⟨rfl, rfl⟩ := noneO_eq hn
      obtain ⟨q, rfl⟩ := formed_pr _ p (Nat.le_refl _) hp
      have : l = [] := List.length_eq_zero_iff.1 h2
      subst this
      exact ⟨.filter q, rfl⟩
    split at h1
    · rename_i hk; subst hk
      simp only [Bool.and_eq_true, decide_eq_true_eq] at h1
      obtain ⟨⟨⟨_, he⟩, h0⟩, _⟩ := h1
      obtain rfl := emptyP_eq he
      have : l = [] := List.length_eq_zero_iff.1 h2
      subst this
      refine ⟨.set f n.toNat, ?_⟩
      simp only [rawO]
      rw [Int.toNat_of_nonneg h0]
    split at h1
    · rename_i hk
      rw [Bool.and_eq_true] at h1
      obtain ⟨he, hn⟩ := h1
      obtain rfl := emptyP_eq he
      obtain ⟨rfl, rfl⟩ := noneO_eq hn
      rcases hk with rfl | rfl | rfl
      · obtain ⟨x, y, rfl⟩ := len2 h2
        simp only [formedOs, Bool.and_true, Bool.and_eq_true] at h3
        simp only [wtSs] at hr
        obtain ⟨p, rfl⟩ := ih x (by omega) h3.1
        obtain ⟨q, rfl⟩ := ih y (by omega) h3.2
        exact ⟨.union p q, rfl⟩
      · obtain ⟨x, y, rfl⟩ := len2 h2
        simp only [formedOs, Bool.and_true, Bool.and_eq_true] at h3
        simp only [wtSs] at hr
        obtain ⟨p, rfl⟩ := ih x (by omega) h3.1
        obtain ⟨q, rfl⟩ := ih y (by omega) h3.2
        exact ⟨.seq p q, rfl⟩
      · obtain ⟨x, rfl⟩ := len1 h2
        simp only [formedOs, Bool.and_true] at h3
        simp only [wtSs] at hr
        obtain ⟨p, rfl⟩ := ih x (by omega) h3
        exact ⟨.star p, rfl⟩
    · cases h1

theorem ite0 {c : Prop} [Decidable c] (h : (if c then (1 : Int) else 0) = 0) : ¬ c := fun hc => by rw [if_pos hc] at h; cases h

/-- What the fit of all parts says. -/
theorem fit_pr {l : List Fd} : ∀ p : Pr, formedP (rawP p) = true → (∀ x ∈ partsR (rawP p), fitP l x = 0) → POk l p
  | .tt, _, _ => trivial
  | .ff, _, _ => trivial
  | .time _ _, _, _ => trivial
  | .eq f n, _, h => by
    have := h _ (by simp only [rawP, partsR]; exact List.mem_cons_self)
    simp only [fitP] at this
    rw [if_pos (.inl trivial)] at this
    cases hF : findF l f with
    | none => rw [hF] at this; cases this
    | some F =>
      rw [hF] at this
      simp only at this
      have hc := ite0 this
      have := Nat.two_pow_pos F.w
      refine ⟨F, hF, ?_⟩
      simp at hc; omega
  | .pre f n m, _, h => by
    have := h _ (by simp only [rawP, partsR]; exact List.mem_cons_self)
    simp only [fitP] at this
    rw [if_pos (.inr (.inl trivial))] at this
    cases hF : findF l f with
    | none => rw [hF] at this; cases this
    | some F =>
      rw [hF] at this
      simp only at this
      have hc := ite0 this
      have := Nat.two_pow_pos F.w
      refine ⟨F, hF, ?_⟩
      simp at hc; omega
  | .rng f n m, hf, h => by
    have := h _ (by simp only [rawP, partsR]; exact List.mem_cons_self)
    simp only [fitP] at this
    rw [if_pos (.inr (.inr trivial))] at this
    have hnm : n ≤ m := by
      simp [rawP, formedP, okP] at hf
      omega
    cases hF : findF l f with
    | none => rw [hF] at this; cases this
    | some F =>
      rw [hF] at this
      simp only at this
      have hc := ite0 this
      have := Nat.two_pow_pos F.w
      refine ⟨F, hF, hnm, ?_⟩
      simp at hc; omega
  | .not p, hf, h => by
    simp only [rawP, formedP, formedPs, Bool.and_eq_true] at hf
    refine fit_pr p hf.2.1 fun x hx => h x ?_
    simp only [rawP, partsR, partsRs, List.append_nil, List.mem_cons]
    exact .inr hx
  | .and p q, hf, h => by
    simp only [rawP, formedP, formedPs, Bool.and_eq_true] at hf
    refine ⟨fit_pr p hf.2.1 fun x hx => h x ?_, fit_pr q hf.2.2.1 fun x hx => h x ?_⟩
    · simp only [rawP, partsR, partsRs, List.append_nil, List.mem_cons, List.mem_append]; exact .inr (.inl hx)
    · simp only [rawP, partsR, partsRs, List.append_nil, List.mem_cons, List.mem_append]; exact .inr (.inr hx)
  | .or p q, hf, h => by
    simp only [rawP, formedP, formedPs, Bool.and_eq_true] at hf
    refine ⟨fit_pr p hf.2.1 fun x hx => h x ?_, fit_pr q hf.2.2.1 fun x hx => h x ?_⟩
    · simp only [rawP, partsR, partsRs, List.append_nil, List.mem_cons, List.mem_append]; exact .inr (.inl hx)
    · simp only [rawP, partsR, partsRs, List.append_nil, List.mem_cons, List.mem_append]; exact .inr (.inr hx)

theorem fit_po {l : List Fd} : ∀ p : Po, formedO (rawO p) = true → (∀ x ∈ partsS (rawO p), fitO l x = 0) → OOk l p
  | .filter p, hf, h => by
    have := h _ (by simp only [rawO, partsS]; exact List.mem_cons_self)
    simp only [fitO, if_true, fitAll] at this
    simp [rawO, formedO, okO] at hf
    exact fit_pr p hf.1.1.1 fun x hx => firstNZ_inv this _ (List.mem_map.2 ⟨x, hx, rfl⟩)
  | .set f n, _, h => by
    have := h _ (by simp only [rawO, partsS]; exact List.mem_cons_self)
    simp only [fitO] at this
    rw [if_neg (by decide), if_pos trivial] at this
    cases hF : findF l f with
    | none => rw [hF] at this; cases this
    | some F =>
      rw [hF] at this
      simp only at this
      split at this
      · cases this
      · rename_i hc
        have := Nat.two_pow_pos F.w
        exact ⟨F, hF, by omega⟩
  | .union a b, hf, h => by
    simp only [rawO, formedO, formedOs, Bool.and_eq_true] at hf
    refine ⟨fit_po a hf.2.1 fun x hx => h x ?_, fit_po b hf.2.2.1 fun x hx => h x ?_⟩
    · simp only [rawO, partsS, partsSs, List.append_nil, List.mem_cons, List.mem_append]; exact .inr (.inl hx)
    · simp only [rawO, partsS, partsSs, List.append_nil, List.mem_cons, List.mem_append]; exact .inr (.inr hx)
  | .seq a b, hf, h => by
    simp only [rawO, formedO, formedOs, Bool.and_eq_true] at hf
    refine ⟨fit_po a hf.2.1 fun x hx => h x ?_, fit_po b hf.2.2.1 fun x hx => h x ?_⟩
    · simp only [rawO, partsS, partsSs, List.append_nil, List.mem_cons, List.mem_append]; exact .inr (.inl hx)
    · simp only [rawO, partsS, partsSs, List.append_nil, List.mem_cons, List.mem_append]; exact .inr (.inr hx)
  | .star a, hf, h => by
    simp only [rawO, formedO, formedOs, Bool.and_eq_true] at hf
    refine fit_po a hf.2.1 fun x hx => h x ?_
    simp only [rawO, partsS, partsSs, List.append_nil, List.mem_cons]; exact .inr hx

theorem check0 {r : RO} (h : checkO r = 0) : r.size ≤ 200 ∧ r.deep ≤ 20 ∧ formedO r = true := by
  unfold checkO formI limI at h
  by_cases hc : r.size ≤ 200 ∧ r.deep ≤ 20
  · rw [if_pos hc, if_pos rfl] at h
    cases hb : formedO r with
    | true => exact ⟨hc.1, hc.2, rfl⟩
    | false => rw [hb] at h; cases h
  · rw [if_neg hc] at h; cases h
theorem pol0 {l : List Fd} {r : RO} (h : polI l r = 0) : checkO r = 0 ∧ ∀ x ∈ partsS r, fitO l x = 0 := by
  unfold polI at h
  split at h
  · rename_i hc; exact absurd h hc
  · rename_i hc
    exact ⟨Decidable.not_not.1 hc, fun x hx => firstNZ_inv h _ (List.mem_map.2 ⟨x, hx, rfl⟩)⟩
/-- A policy that is typed. -/
theorem typed_po {l : List Fd} {r : RO} (h : polI l r = 0) : ∃ p, r = rawO p ∧ OOk l p := by
  obtain ⟨h1, h2⟩ := pol0 h
  obtain ⟨_, _, h3⟩ := check0 h1
  obtain ⟨p, rfl⟩ := formed_po _ r (Nat.le_refl _) h3
  exact ⟨p, rfl, fit_po p h3 h2⟩
theorem typed_ok {l : List Fd} {p : Po} (h : polI l (rawO p) = 0) : OOk l p := by
  obtain ⟨h1, h2⟩ := pol0 h
  exact fit_po p (check0 h1).2.2 h2
end Go.MM
end
section
/- Meaning: contracts of what the statements call; the statement that all matches the specification. -/
namespace Go.MM
open Go Go.DL Go.Proofs
set_option maxRecDepth 100000
set_option maxHeartbeats 8000000

/-- A policy, a predicate, by its cells. -/
abbrev eo (p : Po) : T := .agg (cellsS (rawO p))
abbrev ep (p : Pr) : T := .agg (cellsR (rawP p))
theorem ep_eq (p : Pr) : ep p = encP p := by rw [← encR_raw, encR_cells]
theorem eo_eq (p : Po) : eo p = encO p := cellsS_raw p

/-- A policy that can be handed to the specification's checks. -/
structure Sm (r : RO) : Prop where
  wt : r.wt < 2 ^ 40
  nm : namesO r

theorem r24 (r : RP) : DCalls Try.prog 24 [.agg (cellsR r)] (.agg (cellsS (.mk 1 r e0 0 []))) := by
  obtain ⟨k, f, n, m, a⟩ := r
  refine leAgg (dcalls_low (rs := [.cell 2 38]) mixed Try.func24 l24 rfl rfl rfl (r := [.agg [I 1, I k, .str f, I n, I m, .slice 5 (a.map encR), nm0, I 0, .nil]]) (Nat.le_of_ble_eq_true rfl) ?_) (.same _ (.same _ (.same _ (.same _ (.same _ (.same _ (.same _ (.same _ (.none _ .nil)))))))))
  repeat' ((conv => whnf); first | (exact trivial) | (refine now_T ?_) | (refine now_E1 (by first | omega | (simp; done) | (simp; omega) | fail) ?_) | (refine now_E0 (by first | omega | (simp; done) | (simp; omega) | fail) ?_) | (refine now_N1 (by first | omega | (simp; done) | (simp; omega) | fail) ?_) | (refine now_N0 (by first | omega | (simp; done) | (simp; omega) | fail) ?_) | (refine now_D1 (by first | omega | (simp; done) | (simp; omega) | fail) ?_) | (refine now_D0 (by first | omega | (simp; done) | (simp; omega) | fail) ?_) | (refine now_E (fun hq => ?_) (fun hq => ?_)) | (refine now_N (fun hq => ?_) (fun hq => ?_)) | (refine now_D (fun hq => ?_) (fun hq => ?_)) | (refine rb (x := true) (by first | rfl | (simp; done) | (simp; omega) | (simp [*]; done) | (simp [*]; omega) | fail) ?_) | (refine rb (x := false) (by first | rfl | (simp; done) | (simp; omega) | (simp [*]; done) | (simp [*]; omega) | fail) ?_) | (refine rb (by first | rfl | (simp; done) | (simp; omega) | (simp [*]; done) | (simp [*]; omega) | fail) ?_) | (refine ri (by first | rfl | omega | (rw [wrap_id] <;> omega) | (simp; omega) | (simp [*]; done) | fail) ?_) | (refine And.intro (by first | exact trivial | rfl | decide | exact Nat.le_of_ble_eq_true rfl | assumption | exact ⟨rfl, Nat.le_of_ble_eq_true rfl⟩ | exact ⟨trivial, rfl⟩ | exact ⟨⟨trivial, rfl⟩, rfl⟩ | omega | (simp; done) | (simp; omega) | (simp [*]; done) | fail) ?_) | (fail))

def typedB (l : List Fd) (p q : Po) : Bool := (polI l (rawO p) == 0) && (polI l (rawO q) == 0)
theorem t27 (l : List Fd) (hl : LOk l) (p q : Po) (hp : Sm (rawO p)) (hq : Sm (rawO q)) : DCalls Try.prog 27 [fds l, eo p, eo q] (.bool (typedB l p q)) := by
  refine dcalls_low (rs := [.tmp 6]) mixed Try.func27 l27 rfl rfl rfl (r := [.bool _]) (Nat.le_of_ble_eq_true rfl) ?_
  have h1 := t40 l hl _ hp.wt hp.nm
  have h2 := t40 l hl _ hq.wt hq.nm
  unfold typedB
  generalize polI l (rawO p) = a at *
  generalize polI l (rawO q) = b at *
  repeat' ((conv => whnf); first | (exact trivial) | (refine k_call _ (h1) ?_) | (refine k_call _ (h2) ?_) | (refine now_T ?_) | (refine now_E1 (by first | omega | (simp; done) | (simp; omega) | fail) ?_) | (refine now_E0 (by first | omega | (simp; done) | (simp; omega) | fail) ?_) | (refine now_N1 (by first | omega | (simp; done) | (simp; omega) | fail) ?_) | (refine now_N0 (by first | omega | (simp; done) | (simp; omega) | fail) ?_) | (refine now_D1 (by first | omega | (simp; done) | (simp; omega) | fail) ?_) | (refine now_D0 (by first | omega | (simp; done) | (simp; omega) | fail) ?_) | (refine now_E (fun hq => ?_) (fun hq => ?_)) | (refine now_N (fun hq => ?_) (fun hq => ?_)) | (refine now_D (fun hq => ?_) (fun hq => ?_)) | (refine rb (x := true) (by first | rfl | (simp; done) | (simp; omega) | (simp [*]; done) | (simp [*]; omega) | fail) ?_) | (refine rb (x := false) (by first | rfl | (simp; done) | (simp; omega) | (simp [*]; done) | (simp [*]; omega) | fail) ?_) | (refine rb (by first | rfl | (simp; done) | (simp; omega) | (simp [*]; done) | (simp [*]; omega) | fail) ?_) | (refine ri (by first | rfl | omega | (rw [wrap_id] <;> omega) | (simp; omega) | (simp [*]; done) | fail) ?_) | (refine And.intro (by first | (exact cellsS_len _; done) | exact trivial | rfl | decide | exact Nat.le_of_ble_eq_true rfl | assumption | exact ⟨rfl, Nat.le_of_ble_eq_true rfl⟩ | exact ⟨trivial, rfl⟩ | exact ⟨⟨trivial, rfl⟩, rfl⟩ | omega | (simp; done) | (simp; omega) | (simp [*]; done) | fail) ?_) | (fail))

theorem typedB_ok {l : List Fd} {p q : Po} (h : typedB l p q = true) : OOk l p ∧ OOk l q := by
  simp only [typedB, Bool.and_eq_true, beq_iff_eq] at h
  exact ⟨typed_ok h.1, typed_ok h.2⟩

/-- Two policies give the same, if both give something. -/
def sameG (a b : Option (List (List Int))) : Bool := match a, b with
  | some x, some y => x == y
  | _, _ => true
def agreeB (l : List Fd) (tick : Int) (h : List Int) (p q : Po) : Bool := if typedB l p q then sameG (gives l tick p h) (gives l tick q h) else true

theorem t23 (l : List Fd) (hl : LOk l) (p q : Po) (hp : Sm (rawO p)) (hq : Sm (rawO q)) (h : List Int) (hh : HOk h) (tick : Int) : DCalls Try.prog 23 [fds l, eo p, eo q, hd h, I tick] (.bool (agreeB l tick h p q)) := by
  refine dcalls_low (rs := [.tmp 10]) mixed Try.func23 l23 rfl rfl rfl (r := [.bool _]) (Nat.le_of_ble_eq_true rfl) ?_
  have h27 := t27 l hl p q hp hq
  unfold agreeB
  cases hT : typedB l p q with
  | false =>
    rw [hT] at h27
    repeat' ((conv => whnf); first | (exact trivial) | (refine k_call _ (h27) ?_) | (refine now_T ?_) | (refine now_E1 (by first | omega | (simp; done) | (simp; omega) | fail) ?_) | (refine now_E0 (by first | omega | (simp; done) | (simp; omega) | fail) ?_) | (refine now_N1 (by first | omega | (simp; done) | (simp; omega) | fail) ?_) | (refine now_N0 (by first | omega | (simp; done) | (simp; omega) | fail) ?_) | (refine now_D1 (by first | omega | (simp; done) | (simp; omega) | fail) ?_) | (refine now_D0 (by first | omega | (simp; done) | (simp; omega) | fail) ?_) | (refine now_E (fun hq => ?_) (fun hq => ?_)) | (refine now_N (fun hq => ?_) (fun hq => ?_)) | (refine now_D (fun hq => ?_) (fun hq => ?_)) | (refine rb (x := true) (by first | rfl | (simp; done) | (simp; omega) | (simp [*]; done) | (simp [*]; omega) | fail) ?_) | (refine rb (x := false) (by first | rfl | (simp; done) | (simp; omega) | (simp [*]; done) | (simp [*]; omega) | fail) ?_) | (refine rb (by first | rfl | (simp; done) | (simp; omega) | (simp [*]; done) | (simp [*]; omega) | fail) ?_) | (refine ri (by first | rfl | omega | (rw [wrap_id] <;> omega) | (simp; omega) | (simp [*]; done) | fail) ?_) | (refine And.intro (by first | (exact cellsS_len _; done) | (simp [hh.len]; done) | exact trivial | rfl | decide | exact Nat.le_of_ble_eq_true rfl | assumption | exact ⟨rfl, Nat.le_of_ble_eq_true rfl⟩ | exact ⟨trivial, rfl⟩ | exact ⟨⟨trivial, rfl⟩, rfl⟩ | omega | (simp; done) | (simp; omega) | (simp [*]; done) | fail) ?_) | (fail))
  | true =>
    rw [hT] at h27
    obtain ⟨op, oq⟩ := typedB_ok hT
    have h1 := t28 l hl tick p op h hh
    have h2 := t28 l hl tick q oq h hh
    rw [← eo_eq] at h1 h2
    have k1 : ∀ s, gives l tick p h = some s → SOk s := fun s e => gives_ok hl op hh e
    have k2 : ∀ s, gives l tick q h = some s → SOk s := fun s e => gives_ok hl oq hh e
    rw [if_pos rfl]
    generalize gives l tick p h = a at *
    generalize gives l tick q h = b at *
    cases a with
    | none => cases b <;> repeat' ((conv => whnf); first | (exact trivial) | (refine k_call _ (h27) ?_) | (refine k_call _ (h1) ?_) | (refine k_call _ (h2) ?_) | (refine now_T ?_) | (refine now_E1 (by first | omega | (simp; done) | (simp; omega) | fail) ?_) | (refine now_E0 (by first | omega | (simp; done) | (simp; omega) | fail) ?_) | (refine now_N1 (by first | omega | (simp; done) | (simp; omega) | fail) ?_) | (refine now_N0 (by first | omega | (simp; done) | (simp; omega) | fail) ?_) | (refine now_D1 (by first | omega | (simp; done) | (simp; omega) | fail) ?_) | (refine now_D0 (by first | omega | (simp; done) | (simp; omega) | fail) ?_) | (refine now_E (fun hq => ?_) (fun hq => ?_)) | (refine now_N (fun hq => ?_) (fun hq => ?_)) | (refine now_D (fun hq => ?_) (fun hq => ?_)) | (refine rb (x := true) (by first | rfl | (simp; done) | (simp; omega) | (simp [*]; done) | (simp [*]; omega) | fail) ?_) | (refine rb (x := false) (by first | rfl | (simp; done) | (simp; omega) | (simp [*]; done) | (simp [*]; omega) | fail) ?_) | (refine rb (by first | rfl | (simp; done) | (simp; omega) | (simp [*]; done) | (simp [*]; omega) | fail) ?_) | (refine ri (by first | rfl | omega | (rw [wrap_id] <;> omega) | (simp; omega) | (simp [*]; done) | fail) ?_) | (refine And.intro (by first | (exact cellsS_len _; done) | (simp [hh.len]; done) | exact trivial | rfl | decide | exact Nat.le_of_ble_eq_true rfl | assumption | exact ⟨rfl, Nat.le_of_ble_eq_true rfl⟩ | exact ⟨trivial, rfl⟩ | exact ⟨⟨trivial, rfl⟩, rfl⟩ | omega | (simp; done) | (simp; omega) | (simp [*]; done) | fail) ?_) | (fail))
    | some x =>
      cases b with
      | none => repeat' ((conv => whnf); first | (exact trivial) | (refine k_call _ (h27) ?_) | (refine k_call _ (h1) ?_) | (refine k_call _ (h2) ?_) | (refine now_T ?_) | (refine now_E1 (by first | omega | (simp; done) | (simp; omega) | fail) ?_) | (refine now_E0 (by first | omega | (simp; done) | (simp; omega) | fail) ?_) | (refine now_N1 (by first | omega | (simp; done) | (simp; omega) | fail) ?_) | (refine now_N0 (by first | omega | (simp; done) | (simp; omega) | fail) ?_) | (refine now_D1 (by first | omega | (simp; done) | (simp; omega) | fail) ?_) | (refine now_D0 (by first | omega | (simp; done) | (simp; omega) | fail) ?_) | (refine now_E (fun hq => ?_) (fun hq => ?_)) | (refine now_N (fun hq => ?_) (fun hq => ?_)) | (refine now_D (fun hq => ?_) (fun hq => ?_)) | (refine rb (x := true) (by first | rfl | (simp; done) | (simp; omega) | (simp [*]; done) | (simp [*]; omega) | fail) ?_) | (refine rb (x := false) (by first | rfl | (simp; done) | (simp; omega) | (simp [*]; done) | (simp [*]; omega) | fail) ?_) | (refine rb (by first | rfl | (simp; done) | (simp; omega) | (simp [*]; done) | (simp [*]; omega) | fail) ?_) | (refine ri (by first | rfl | omega | (rw [wrap_id] <;> omega) | (simp; omega) | (simp [*]; done) | fail) ?_) | (refine And.intro (by first | (exact cellsS_len _; done) | (simp [hh.len]; done) | exact trivial | rfl | decide | exact Nat.le_of_ble_eq_true rfl | assumption | exact ⟨rfl, Nat.le_of_ble_eq_true rfl⟩ | exact ⟨trivial, rfl⟩ | exact ⟨⟨trivial, rfl⟩, rfl⟩ | omega | (simp; done) | (simp; omega) | (simp [*]; done) | fail) ?_) | (fail))
      | some y =>
        have h14 := t14 x y (k1 x rfl).ok.len (k2 y rfl).ok.len (by have := (k1 x rfl).len; omega)
        simp only [sameG]
        generalize (x == y) = e at *
        repeat' ((conv => whnf); first | (exact trivial) | (refine k_call _ (h27) ?_) | (refine k_call _ (h1) ?_) | (refine k_call _ (h2) ?_) | (refine k_call _ (h14) ?_) | (refine now_T ?_) | (refine now_E1 (by first | omega | (simp; done) | (simp; omega) | fail) ?_) | (refine now_E0 (by first | omega | (simp; done) | (simp; omega) | fail) ?_) | (refine now_N1 (by first | omega | (simp; done) | (simp; omega) | fail) ?_) | (refine now_N0 (by first | omega | (simp; done) | (simp; omega) | fail) ?_) | (refine now_D1 (by first | omega | (simp; done) | (simp; omega) | fail) ?_) | (refine now_D0 (by first | omega | (simp; done) | (simp; omega) | fail) ?_) | (refine now_E (fun hq => ?_) (fun hq => ?_)) | (refine now_N (fun hq => ?_) (fun hq => ?_)) | (refine now_D (fun hq => ?_) (fun hq => ?_)) | (refine rb (x := true) (by first | rfl | (simp; done) | (simp; omega) | (simp [*]; done) | (simp [*]; omega) | fail) ?_) | (refine rb (x := false) (by first | rfl | (simp; done) | (simp; omega) | (simp [*]; done) | (simp [*]; omega) | fail) ?_) | (refine rb (by first | rfl | (simp; done) | (simp; omega) | (simp [*]; done) | (simp [*]; omega) | fail) ?_) | (refine ri (by first | rfl | omega | (rw [wrap_id] <;> omega) | (simp; omega) | (simp [*]; done) | fail) ?_) | (refine And.intro (by first | (exact cellsS_len _; done) | (simp [hh.len]; done) | exact trivial | rfl | decide | exact Nat.le_of_ble_eq_true rfl | assumption | exact ⟨rfl, Nat.le_of_ble_eq_true rfl⟩ | exact ⟨trivial, rfl⟩ | exact ⟨⟨trivial, rfl⟩, rfl⟩ | omega | (simp; done) | (simp; omega) | (simp [*]; done) | fail) ?_) | (fail))

/-- What a right call of a statement about some policies gives. -/
theorem right_ok {l : List RF} {h : List Int} {tick : Int} {rs : List RO} (hh : h.length = 10) (hr : rightB l h tick rs = true) :
    Checked l ∧ HOk h ∧ 0 ≤ tick ∧ tick ≤ 1073741824 ∧ ∀ r ∈ rs, polI (l.map RF.fd) r = 0 ∧ r.cnt ≤ 40 ∧ r.stars ≤ 2 ∧ lightB r.stars r.puts = true := by
  simp only [rightB, preB, Bool.and_eq_true, beq_iff_eq, decide_eq_true_eq, List.all_eq_true, fewB] at hr
  obtain ⟨⟨⟨⟨h1, h2⟩, h3⟩, h4⟩, h5⟩ := hr
  exact ⟨checked_of h1, ⟨hh, h2⟩, h3, h4, fun r hm => by obtain ⟨⟨⟨a, b⟩, c⟩, d⟩ := h5 r hm; exact ⟨a, b, c, d⟩⟩

theorem set_ok (m : Int) (hm : m ≤ 100) {a : List (List Int)} (ha : Len10 a) (h : (setB a && decide ((a.length : Int) ≤ m)) = true) : SOk a := by
  refine setB_ok ha ?_
  rw [Bool.and_eq_true, decide_eq_true_eq] at h ⊢
  exact ⟨h.1, by omega⟩

theorem t7 (l : List RF) (hl : l.length < 2 ^ 60) (hn : ∀ f ∈ l, f.name.size < 2 ^ 62) (r : RO) (hr : Sm r) (x : RP) (hx1 : x.nodes < 2 ^ 39) (hx2 : namesP x) (h : List Int) (hh : h.length = 10) (hs : List (List Int)) (hw : Len10 hs) (hlen : hs.length < 2 ^ 63) (tick : Int) :
    DCalls Try.prog 7 [encFs l, .agg (cellsS r), .agg (cellsR x), hd h, heads hs, I tick] (.bool true) := by
  refine dcalls_low (rs := [.tmp 12]) mixed Try.func7 l7 rfl rfl rfl (r := [.bool true]) (Nat.le_of_ble_eq_true rfl) ?_
  have c24 := r24 x
  have hx : Sm (.mk 1 x e0 0 []) := ⟨by simp only [RO.wt, wtSs]; omega, hx2, by decide, trivial⟩
  have c18 := t18 l hl hn h hh tick [r, .mk 1 x e0 0 []] (by simp) (fun y hy => by
    simp only [List.mem_cons, List.not_mem_nil, or_false] at hy
    rcases hy with rfl | rfl
    · exact ⟨hr.wt, hr.nm⟩
    · exact ⟨hx.wt, hx.nm⟩)
  simp only [List.map_cons, List.map_nil, encS_cells] at c18
  have c10 := t10 hs 40 hw (by omega)
  have c12 := t12
  cases hR : rightB l h tick [r, .mk 1 x e0 0 []] with
  | false =>
    rw [hR] at c18
    repeat' ((conv => whnf); first | (exact trivial) | (refine k_call _ (c24) ?_) | (refine k_call _ (c18) ?_) | (refine k_call _ (c12) ?_) | (refine now_T ?_) | (refine now_E1 (by first | omega | (simp; done) | (simp; omega) | fail) ?_) | (refine now_E0 (by first | omega | (simp; done) | (simp; omega) | fail) ?_) | (refine now_N1 (by first | omega | (simp; done) | (simp; omega) | fail) ?_) | (refine now_N0 (by first | omega | (simp; done) | (simp; omega) | fail) ?_) | (refine now_D1 (by first | omega | (simp; done) | (simp; omega) | fail) ?_) | (refine now_D0 (by first | omega | (simp; done) | (simp; omega) | fail) ?_) | (refine now_E (fun hq => ?_) (fun hq => ?_)) | (refine now_N (fun hq => ?_) (fun hq => ?_)) | (refine now_D (fun hq => ?_) (fun hq => ?_)) | (refine rb (x := true) (by first | rfl | (simp; done) | (simp; omega) | (simp [*]; done) | (simp [*]; omega) | fail) ?_) | (refine rb (x := false) (by first | rfl | (simp; done) | (simp; omega) | (simp [*]; done) | (simp [*]; omega) | fail) ?_) | (refine rb (by first | rfl | (simp; done) | (simp; omega) | (simp [*]; done) | (simp [*]; omega) | fail) ?_) | (refine ri (by first | rfl | omega | (rw [wrap_id] <;> omega) | (simp; omega) | (simp [*]; done) | fail) ?_) | (refine And.intro (by first | (exact cellsS_len _; done) | (exact cellsR_len _; done) | (simp [hh]; done) | (exact ⟨⟨trivial, cellsS_len _⟩, cellsS_len _⟩; done) | exact trivial | rfl | decide | exact Nat.le_of_ble_eq_true rfl | assumption | exact ⟨rfl, Nat.le_of_ble_eq_true rfl⟩ | exact ⟨trivial, rfl⟩ | exact ⟨⟨trivial, rfl⟩, rfl⟩ | omega | (simp; done) | (simp; omega) | (simp [*]; done) | fail) ?_) | (fail))
  | true =>
  rw [hR] at c18
  cases hS : setB hs && decide ((hs.length : Int) ≤ 40) with
  | false =>
    rw [hS] at c10
    repeat' ((conv => whnf); first | (exact trivial) | (refine k_call _ (c24) ?_) | (refine k_call _ (c18) ?_) | (refine k_call _ (c10) ?_) | (refine k_call _ (c12) ?_) | (refine now_T ?_) | (refine now_E1 (by first | omega | (simp; done) | (simp; omega) | fail) ?_) | (refine now_E0 (by first | omega | (simp; done) | (simp; omega) | fail) ?_) | (refine now_N1 (by first | omega | (simp; done) | (simp; omega) | fail) ?_) | (refine now_N0 (by first | omega | (simp; done) | (simp; omega) | fail) ?_) | (refine now_D1 (by first | omega | (simp; done) | (simp; omega) | fail) ?_) | (refine now_D0 (by first | omega | (simp; done) | (simp; omega) | fail) ?_) | (refine now_E (fun hq => ?_) (fun hq => ?_)) | (refine now_N (fun hq => ?_) (fun hq => ?_)) | (refine now_D (fun hq => ?_) (fun hq => ?_)) | (refine rb (x := true) (by first | rfl | (simp; done) | (simp; omega) | (simp [*]; done) | (simp [*]; omega) | fail) ?_) | (refine rb (x := false) (by first | rfl | (simp; done) | (simp; omega) | (simp [*]; done) | (simp [*]; omega) | fail) ?_) | (refine rb (by first | rfl | (simp; done) | (simp; omega) | (simp [*]; done) | (simp [*]; omega) | fail) ?_) | (refine ri (by first | rfl | omega | (rw [wrap_id] <;> omega) | (simp; omega) | (simp [*]; done) | fail) ?_) | (refine And.intro (by first | (exact cellsS_len _; done) | (exact cellsR_len _; done) | (simp [hh]; done) | (exact ⟨⟨trivial, cellsS_len _⟩, cellsS_len _⟩; done) | exact trivial | rfl | decide | exact Nat.le_of_ble_eq_true rfl | assumption | exact ⟨rfl, Nat.le_of_ble_eq_true rfl⟩ | exact ⟨trivial, rfl⟩ | exact ⟨⟨trivial, rfl⟩, rfl⟩ | omega | (simp; done) | (simp; omega) | (simp [*]; done) | fail) ?_) | (fail))
  | true =>
  rw [hS] at c10
  obtain ⟨ck, ho, _, _, hall⟩ := right_ok hh hR
  obtain ⟨p, rfl, op⟩ := typed_po (hall r (by simp)).1
  obtain ⟨q, hq, oq⟩ := typed_po (hall (.mk 1 x e0 0 []) (by simp)).1
  cases q with
  | set | union | seq | star => cases hq
  | filter x' =>
  simp only [rawO, RO.mk.injEq, true_and, and_true] at hq
  subst hq
  have okL := ck.ok
  have so := set_ok 40 (by decide) hw hS
  have hfd := ck.fds
  generalize l.map RF.fd = L at *
  rw [hfd] at c18 ⊢
  have h1 := t28 L okL tick p op h ho
  have h2 := (t31 L okL tick p op) h ho
  have h3 := t32 L okL tick p op hs so.ok (by have := so.len; omega)
  have h4 := t33 L okL tick p op (t31 L okL tick p op) hs so.ok (by have := so.len; omega)
  have h5 := t34 L okL tick p op h ho
  have h6 := t35 L okL tick p op h ho
  have h7 := t36 L okL tick h ho x' oq
  have h8 := t37 L okL tick h ho x' oq
  rw [← eo_eq] at h1 h2 h3 h4 h5 h6
  rw [← ep_eq] at h7 h8
  have k1 : ∀ s, gives L tick p h = some s → SOk s := fun s e => gives_ok okL op ho e
  have k2 : ∀ s, image (gives L tick p) hs [] = some s → SOk s := fun s e => image_ok (fun h s hh e => gives_ok okL op hh e) so.ok sok_nil e
  have same : ∀ a, SOk a → DCalls Try.prog 14 [heads a, heads a] (.bool true) := fun a ha => by
    have := t14 a a ha.ok.len ha.ok.len (by have := ha.len; omega)
    rwa [beq_self_eq_true] at this
  have same0 := same [] sok_nil
  generalize gives L tick p h = g at *
  generalize image (gives L tick p) hs [] = im at *
  generalize starO L tick p h = st at *
  generalize holds L tick h x' = b at *
  rcases g with _ | a1 <;> rcases im with _ | a2 <;> rcases st with _ | ⟨a3, n⟩
  all_goals repeat' ((conv => whnf); first | (exact trivial) | (refine k_call _ (c24) ?_) | (refine k_call _ (c18) ?_) | (refine k_call _ (c10) ?_) | (refine k_call _ (c12) ?_) | (refine k_call _ (h1) ?_) | (refine k_call _ (h2) ?_) | (refine k_call _ (h3) ?_) | (refine k_call _ (h4) ?_) | (refine k_call _ (h5) ?_) | (refine k_call _ (h6) ?_) | (refine k_call _ (same0) ?_) | (refine k_call _ (same a1 (k1 a1 rfl)) ?_) | (refine k_call _ (same a2 (k2 a2 rfl)) ?_) | (refine k_call _ (h7) ?_) | (refine k_call _ (h8) ?_) | (refine now_T ?_) | (refine now_E1 (by first | omega | (simp; done) | (simp; omega) | fail) ?_) | (refine now_E0 (by first | omega | (simp; done) | (simp; omega) | fail) ?_) | (refine now_N1 (by first | omega | (simp; done) | (simp; omega) | fail) ?_) | (refine now_N0 (by first | omega | (simp; done) | (simp; omega) | fail) ?_) | (refine now_D1 (by first | omega | (simp; done) | (simp; omega) | fail) ?_) | (refine now_D0 (by first | omega | (simp; done) | (simp; omega) | fail) ?_) | (refine now_E (fun hq => ?_) (fun hq => ?_)) | (refine now_N (fun hq => ?_) (fun hq => ?_)) | (refine now_D (fun hq => ?_) (fun hq => ?_)) | (refine rb (x := true) (by first | rfl | (simp; done) | (simp; omega) | (simp [*]; done) | (simp [*]; omega) | fail) ?_) | (refine rb (x := false) (by first | rfl | (simp; done) | (simp; omega) | (simp [*]; done) | (simp [*]; omega) | fail) ?_) | (refine rb (by first | rfl | (simp; done) | (simp; omega) | (simp [*]; done) | (simp [*]; omega) | fail) ?_) | (refine ri (by first | rfl | omega | (rw [wrap_id] <;> omega) | (simp; omega) | (simp [*]; done) | fail) ?_) | (refine And.intro (by first | (exact cellsS_len _; done) | (exact cellsR_len _; done) | (simp [hh]; done) | (exact ⟨⟨trivial, cellsS_len _⟩, cellsS_len _⟩; done) | exact trivial | rfl | decide | exact Nat.le_of_ble_eq_true rfl | assumption | exact ⟨rfl, Nat.le_of_ble_eq_true rfl⟩ | exact ⟨trivial, rfl⟩ | exact ⟨⟨trivial, rfl⟩, rfl⟩ | omega | (simp; done) | (simp; omega) | (simp [*]; done) | fail) ?_) | (fail))
end Go.MM
end
section
/- Meaning: the arguments of the statements. -/
namespace Go.MM
open Go Go.DL Go.Proofs
set_option maxRecDepth 100000

theorem aInt {us : List T} (h : HasC Try.prog 3 us) : ∃ n, mkT Try.prog 3 us = I n := by
  obtain ⟨n, rfl, _⟩ := hasInt h
  exact ⟨n, by unfold mkT; rw [Try.underlying3]; rfl⟩
theorem aStr {us : List T} (h : HasC Try.prog 9 us) : ∃ s, mkT Try.prog 9 us = .str s ∧ s.size < bulkL us := by
  obtain ⟨s, rfl⟩ := hasStr h
  exact ⟨s, by unfold mkT; rw [und9]; rfl, by simp [bulkL, T.bulk]⟩
theorem aHead {us : List T} (h : HasC Try.prog 24 us) : ∃ h, mkT Try.prog 24 us = hd h ∧ h.length = 10 := by
  obtain ⟨x, rfl, hx, _⟩ := hasHead h
  exact ⟨x, mk24 _, hx⟩
theorem aHeads {us : List T} (h : HasC Try.prog 22 us) : ∃ a, Les (mkT Try.prog 22 us) (heads a) ∧ Len10 a ∧ a.length < 2 ^ 63 := by
  obtain ⟨a, a1, a2, _, a4 | ⟨a4, rfl⟩⟩ := hasHeads h
  · exact ⟨a, by rw [a4]; exact Les.refl _, a1, a2⟩
  · exact ⟨[], by rw [a4]; exact Les.nil 10, a1, a2⟩
theorem aPol {us : List T} (h : HasC Try.prog 38 us) (hb : bulkL us ≤ 1048576) : ∃ r, Les (mkT Try.prog 38 us) (.agg (cellsS r)) ∧ Sm r ∧ r.wt ≤ 1048576 := by
  obtain ⟨r, r1, r2, r3⟩ := (rd_policy h).1 rfl
  exact ⟨r, by rw [mk38]; exact Les.agg r1, ⟨by omega, r3 (by omega)⟩, by omega⟩
theorem aPred {us : List T} (h : HasC Try.prog 35 us) (hb : bulkL us ≤ 1048576) : ∃ r, Les (mkT Try.prog 35 us) (.agg (cellsR r)) ∧ r.nodes ≤ 1048576 ∧ namesP r := by
  obtain ⟨r, r1, r2, r3⟩ := (rd_pred h).1 rfl
  exact ⟨r, by rw [mk35]; exact Les.agg r1, by omega, r3 (by omega)⟩
theorem aFields {us : List T} (h : HasC Try.prog 32 us) (hb : bulkL us ≤ 1048576) : ∃ l, Les (mkT Try.prog 32 us) (encFs l) ∧ l.length < 2 ^ 60 ∧ ∀ f ∈ l, f.name.size < 2 ^ 62 := by
  obtain ⟨l, h1, h2, h3⟩ := rd_fields h
  exact ⟨l, h1, by omega, fun f hf => by have := h3 f hf; omega⟩
end Go.MM
end
