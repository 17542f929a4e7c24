/- The contract of strings.Split at a space, in the words of PlainRd. -/
import Derived.Test.YtapmdkinneehjaaDoorWalkFl
set_option linter.unusedVariables false
set_option linter.unusedSimpArgs false
namespace Go.Proofs.YtapmdkinneehjaaDoor
open Go.RowKit
theorem splitB_spl (l : List UInt8) : (Go.Lib.splitB ⟨#[32]⟩ 0 (Go.Lib.countB (strB l) ⟨#[32]⟩) (strB l)) = (spl l).map strB := by
  have h := Go.Lib.splitB_data ⟨#[32]⟩ 0 (Go.Lib.countB (strB l) ⟨#[32]⟩) (strB l)
  have e : Go.Lib.splitK [32] 0 (Go.Lib.countB (strB l) ⟨#[32]⟩) l = spl l := by
    rw [← split_spl]
    unfold Go.Lib.split Go.Lib.countB
    rw [strB_l]
  rw [strB_l, show (⟨#[32]⟩ : ByteArray).data.toList = [32] from rfl, e] at h
  rw [← h, List.map_map]
  conv => lhs; rw [← List.map_id (Go.Lib.splitB _ _ _ _)]
  apply List.map_congr_left
  intro x _
  exact (strB_of x).symm
theorem spl_len (l : List UInt8) : (spl l).length = Go.Lib.countB (strB l) ⟨#[32]⟩ + 1 := by
  have := Go.Lib.splitB_all ⟨#[32]⟩ (by decide) 0 _ (strB l) rfl
  rw [splitB_spl, List.length_map] at this
  exact this
theorem spl_le : ∀ (l : List UInt8), ∀ x ∈ spl l, x.length ≤ l.length
  | [], x, h => by simp [spl] at h; subst h; simp
  | c :: l, x, h => by
    have ih := spl_le l
    unfold spl at h
    split at h
    · rcases List.mem_cons.1 h with rfl | h
      · simp
      · have := ih x h; simp; omega
    · split at h
      · simp at h; subst h; simp
      · rename_i y r hs
        rw [hs] at ih
        rcases List.mem_cons.1 h with rfl | h
        · have := ih y (by simp); simp; omega
        · have := ih x (by simp [h]); simp; omega
theorem spl_count (l : List UInt8) : (spl l).length ≤ l.length + 1 := by
  have : ∀ l : List UInt8, (spl l).length ≤ l.length + 1 := by
    intro l
    induction l with
    | nil => simp [spl]
    | cons c l ih =>
      unfold spl
      split
      · simp; omega
      · split
        · simp
        · rename_i y r hs
          rw [hs] at ih
          simp at ih ⊢; omega
  exact this l
theorem c_Split (l : List UInt8) (w : World) (hM : NMx w) (hl : l.length ≤ 16000) :
    Calls Tryd.prog 31 #[.string (strB l), .string ⟨#[32]⟩] w fun e w' => ∃ b, e = .returned (.slice (some ⟨b, 0, none⟩) (spl l).length (spl l).length) ∧ w.heap.size ≤ b ∧ TxSlice w' (some ⟨b, 0, none⟩) (spl l) ∧ Below w.heap.size w w' := by
  obtain ⟨lt, m, c⟩ := hM
  refine (Tryd.strings_Split (strB l) ⟨#[32]⟩ m w (by rw [strB_size]; omega) c (by decide)).mono ?_
  rintro e w' ⟨rfl, rfl⟩
  refine ⟨w.heap.size, by rw [spl_len], Nat.le_refl _, ?_, (Below.refl _ _).alloc (Nat.le_refl _) _⟩
  intro k hk
  refine ⟨_, _, rfl, by simp, ?_⟩
  rw [splitB_spl]
  have : (w.alloc (.cells ((spl l).map strB |>.map Value.string).toArray 9)).cell? ⟨w.heap.size, 0 + k, none⟩ = (((spl l).map strB).map Value.string).toArray[0 + k]? := by
    rw [Lib.cell_of_heap (heap_alloc_new w _)]
  rw [this]
  simp [hk]
end Go.Proofs.YtapmdkinneehjaaDoor
