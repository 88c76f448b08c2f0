/- Contracts of functions of the given program, without a condition beyond those that each theorem states; they lead to the given statement. -/
import Derived.Test.YtekdocalipchpaaV03d
set_option linter.unusedSimpArgs false
set_option linter.unusedVariables false
set_option maxRecDepth 100000
namespace Go.Proofs.Ytekdocalipchpaa
open Go Go.Fl
open Classical
structure Les (s t : Shop) : Prop where
  ms : t.ms = s.ms
  wt : t.wt = s.wt
  fr : t.fr = s.fr
  ws : ∀ w, w ∈ t.ws → w ∈ s.ws
theorem agr_ms {s t : Shop} (h : t.ms = s.ms) (w : List Int) : agrB t w = agrB s w := by unfold agrB; rw [h]
theorem lf_ms {s t : Shop} (h : t.ms = s.ms) (w : List Int) (i : Int) : lf t w i = lf s w i := by unfold lf uo; rw [h]
theorem Les.mem {s t : Shop} (h : Les s t) {w : List Int} (hw : w ∈ aW t) : w ∈ aW s := by
  obtain ⟨h1, h2⟩ := aW_mem hw
  exact List.mem_filter.2 ⟨h.ws w h1, by rw [← agr_ms h.ms]; exact h2⟩
theorem Les.lo {s t : Shop} (h : Les s t) (hne : aW t ≠ []) (i : Int) : lo s i ≤ lo t i := by
  have h1 := low_mem (l := (aW t).map fun w => lf t w i) (by simpa using hne)
  obtain ⟨w, hw, he⟩ := List.mem_map.1 h1
  show low _ ≤ low _
  rw [← he, lf_ms h.ms]
  exact low_le (List.mem_map.2 ⟨w, h.mem hw, rfl⟩)
theorem Les.hi {s t : Shop} (h : Les s t) (hne : aW t ≠ []) (i : Int) : hi t i ≤ hi s i := by
  have h1 := high_mem (l := (aW t).map fun w => lf t w i) (by simpa using hne)
  obtain ⟨w, hw, he⟩ := List.mem_map.1 h1
  show high _ ≤ high _
  rw [← he, lf_ms h.ms]
  exact le_high (List.mem_map.2 ⟨w, h.mem hw, rfl⟩)
theorem Les.surT {s t : Shop} (h : Les s t) (hne : aW t ≠ []) (p : Int) : ∀ k, surT s p k ≤ surT t p k
  | 0 => Int.le_refl _
  | k + 1 => by
    have ih := Les.surT h hne p k
    have hl := h.lo hne k
    have : sur1 s p k ≤ sur1 t p k := by
      unfold sur1
      rw [h.ms]
      split
      · split <;> omega
      · omega
    simp only [Go.Proofs.Ytekdocalipchpaa.surT]
    omega
theorem Les.sur {s t : Shop} (h : Les s t) (hne : aW t ≠ []) (p : Int) : sur s p ≤ sur t p := by
  have := h.surT hne p s.ms.length
  unfold Go.Proofs.Ytekdocalipchpaa.sur; rw [h.ms]; exact this
theorem ceil_mono {a b fr : Int} (hf : 1 ≤ fr) (h : a ≤ b) : (max 0 a + fr - 1) / fr ≤ (max 0 b + fr - 1) / fr := Int.ediv_le_ediv (by omega) (by omega)
theorem Les.neT {s t : Shop} (h : Les s t) (hf : 1 ≤ s.fr) (hne : aW t ≠ []) : ∀ k, neT t k ≤ neT s k
  | 0 => Int.le_refl _
  | k + 1 => by
    have ih := Les.neT h hf hne k
    have hl := h.sur hne k
    have : ne1 t k ≤ ne1 s k := by
      unfold ne1
      rw [h.wt, h.fr]
      split
      · exact ceil_mono hf (by omega)
      · omega
    simp only [Go.Proofs.Ytekdocalipchpaa.neT]
    omega
theorem Les.neN {s t : Shop} (h : Les s t) (hf : 1 ≤ s.fr) (hne : aW t ≠ []) : neN t ≤ neN s := by
  unfold Go.Proofs.Ytekdocalipchpaa.neN; rw [h.wt]; exact h.neT hf hne _
end Go.Proofs.Ytekdocalipchpaa

