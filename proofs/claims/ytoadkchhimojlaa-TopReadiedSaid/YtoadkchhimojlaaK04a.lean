/- Contracts of functions of the given program, without a condition beyond those that each theorem states; they lead to the given statement. -/
import Derived.Test.YtoadkchhimojlaaK03c
set_option linter.unusedSimpArgs false
set_option linter.unusedVariables false
set_option maxRecDepth 100000
namespace Go.Proofs.Ytoadkchhimojlaa
open Go Go.Fl
open Classical
theorem bit_step : ∀ i, i < 4 → ∀ a, a < 2 ^ i → ∀ b, b < 2 ^ i → a &&& b = a → a &&& (b + 2 ^ i) = a ∧ (a + 2 ^ i) &&& (b + 2 ^ i) = a + 2 ^ i := by decide +kernel
theorem ltM_sub {h h' : House} (ht : h'.ts = h.ts) {R R' : List Int} (hr : ∀ i : Nat, i < h.ts.length → gv R' i ≤ gv R i) (h4 : h.ts.length ≤ 4) : ∀ n, n ≤ h.ts.length → (ltM h' R' n).toNat &&& (ltM h R n).toNat = (ltM h' R' n).toNat
  | 0, _ => by simp [ltM]
  | n + 1, hn => by
    have ih := ltM_sub ht hr h4 n (by omega)
    have b1 := ltM_bd h' R' n
    have b2 := ltM_bd h R n
    have hl := hr n (by omega)
    have e2 : ((2 ^ n : Nat) : Int) = (2 : Int) ^ n := by simp
    have st := bit_step n (by omega) (ltM h' R' n).toNat (by omega) (ltM h R n).toNat (by omega) ih
    have p1 : ∀ x : Int, 0 ≤ x → (x + 2 ^ n).toNat = x.toNat + 2 ^ n := by intro x hx; omega
    rw [ltM, ltM, ht]
    by_cases g1 : gv h.ts n < gv R' n
    · rw [if_pos g1, if_pos (by omega), p1 _ b1.1, p1 _ b2.1]; exact st.2
    · rw [if_neg g1, Int.add_zero]
      by_cases g2 : gv h.ts n < gv R n
      · rw [if_pos g2, p1 _ b2.1]; exact st.1
      · rw [if_neg g2, Int.add_zero]; exact ih
theorem pop_sub : ∀ a : Nat, a < 16 → ∀ b : Nat, b < 16 → a &&& b = a → pop (a : Int) ≤ pop (b : Int) := by decide +kernel
theorem pop_len : ∀ n : Nat, n < 5 → ∀ a : Nat, a < 2 ^ n → pop (a : Int) ≤ (n : Int) := by decide +kernel
theorem lt_len {h : House} (hk : okG h) (R : List Int) : 0 ≤ pop (ltG h R) ∧ pop (ltG h R) ≤ h.ts.length := by
  have b := ltM_bd h R h.ts.length
  have e2 : ((2 ^ h.ts.length : Nat) : Int) = (2 : Int) ^ h.ts.length := by simp
  have := pop_len h.ts.length (by have := hk.2.2.1; omega) (ltG h R).toNat (by unfold ltG; omega)
  rw [Int.toNat_of_nonneg b.1] at this
  refine ⟨?_, this⟩
  have := lt_bd hk R
  exact (pop_bd this.1 this.2).1
theorem rdF_le (T : List Int) (t : Nat) (B : Int) : ∀ (l : List Bun) (i : Nat) (R : List Int), t < R.length → (∀ x, x ∈ l → 0 ≤ x.train ∧ x.train < R.length) → (gv (rdF T l i R) t ≤ B ↔ gv R t ≤ B ∧ ∀ (j : Nat) (x : Bun), l[j]? = some x → x.train = t → tb (gv T (i + j : Nat)) ≤ B)
  | [], i, R, ht, _ => by simp [rdF]
  | x :: l, i, R, ht, hx => by
    have h0 := hx x (by simp)
    have hxt : x.train.toNat < R.length := by omega
    rw [rdF, rdF_le T t B l (i + 1) _ (by simpa using ht) (fun y hy => by simpa using hx y (by simp [hy])), gv_set hxt]
    constructor
    · rintro ⟨h1, h2⟩
      have hR : gv R t ≤ B ∧ (x.train = t → tb (gv T i) ≤ B) := by
        by_cases e : t = x.train.toNat
        · have e' : x.train = t := by omega
          rw [if_pos e, e'] at h1
          exact ⟨by omega, fun _ => by omega⟩
        · rw [if_neg e] at h1
          exact ⟨h1, fun q => by omega⟩
      refine ⟨hR.1, fun j y hj hy => ?_⟩
      cases j with
      | zero => simp at hj; subst hj; exact hR.2 hy
      | succ j =>
        have := h2 j y (by simpa using hj) hy
        rwa [show i + 1 + j = i + (j + 1) by omega] at this
    · rintro ⟨h1, h2⟩
      refine ⟨?_, fun j y hj hy => ?_⟩
      · by_cases e : t = x.train.toNat
        · have e' : x.train = t := by omega
          have := h2 0 x rfl e'
          rw [if_pos e, e']; rw [Nat.add_zero] at this; omega
        · rw [if_neg e]; exact h1
      · have := h2 (j + 1) y (by simpa using hj) hy
        rwa [show i + (j + 1) = i + 1 + j by omega] at this
def sk (i j : Nat) : Nat := if j < i then j else j + 1
def rn (i : Nat) (b : Int) : Option Int := if b < i then some b else if b = i then none else some (b - 1)
def ren (i : Nat) (l : List Int) : List Int := l.filterMap (rn i)
structure Sub (i : Nat) (h' h : House) : Prop where
  ts : h'.ts = h.ts
  ch : h'.ch = h.ch
  bs : h'.bs = h.bs.take i ++ h.bs.drop (i + 1)
  len : h'.ms.length = h.ms.length
  ms : ∀ (j : Nat) (m' m : Mach), h'.ms[j]? = some m' → h.ms[j]? = some m → 0 ≤ m'.ready ∧ m'.ready ≤ m.ready ∧ m'.pace = m.pace ∧ m'.stops = m.stops
theorem Sub.get {i : Nat} {h' h : House} (s : Sub i h' h) (j : Nat) : h'.bs[j]? = h.bs[sk i j]? := by
  rw [s.bs]; unfold sk
  rcases Nat.lt_or_ge i h.bs.length with hi | hi
  · have htl : (h.bs.take i).length = i := by rw [List.length_take]; omega
    split
    · rw [List.getElem?_append_left (by omega), List.getElem?_take]; split <;> first | rfl | omega
    · rw [List.getElem?_append_right (by omega), htl, List.getElem?_drop, show i + 1 + (j - i) = j + 1 by omega]
  · rw [List.take_of_length_le hi, List.drop_eq_nil_of_le (by omega), List.append_nil]
    split
    · rfl
    · rw [List.getElem?_eq_none (by omega), List.getElem?_eq_none (by omega)]
theorem Sub.nb {i : Nat} {h' h : House} (s : Sub i h' h) : h'.bs.length = if i < h.bs.length then h.bs.length - 1 else h.bs.length := by
  rw [s.bs, List.length_append, List.length_take, List.length_drop]; split <;> omega
def Um (i : Nat) (T' T : List Int) (j : Nat) : Prop := (gv T' j = -1 ∧ gv T (sk i j) = -1) ∨ (0 ≤ gv T' j ∧ gv T' j ≤ gv T (sk i j))
theorem Um.tb {i : Nat} {T' T : List Int} {j : Nat} (u : Um i T' T j) : tb (gv T' j) ≤ tb (gv T (sk i j)) := by
  unfold Um at u; unfold Go.Proofs.Ytoadkchhimojlaa.tb; split <;> split <;> omega
def chg (h : House) (bef e : Int) : Int := if 0 ≤ bef ∧ e ≠ bef then h.ch else 0
theorem nxt_chg (h : House) (pc now bef b : Int) : nxt h pc now bef b = now + chg h bef (bunG h b).ed + (bunG h b).hund * pc := by
  unfold nxt chg; split <;> omega
theorem chg_ge {h : House} (h0 : 0 ≤ h.ch) (a b : Int) : 0 ≤ chg h a b := by unfold chg; split <;> omega
theorem chg_tri {h : House} (h0 : 0 ≤ h.ch) {a b c : Int} (hab : 0 ≤ a → 0 ≤ b) : chg h a c ≤ chg h a b + chg h b c := by
  unfold chg
  by_cases h1 : 0 ≤ a ∧ c ≠ a
  · rw [if_pos h1]
    by_cases h2 : b = a
    · subst h2; rw [if_pos h1]; split <;> omega
    · rw [if_pos (show 0 ≤ a ∧ b ≠ a from ⟨h1.1, h2⟩)]; split <;> omega
  · rw [if_neg h1]; split <;> split <;> omega
theorem bun_in {h : House} (hk : okG h) {b : Int} (h0 : 0 ≤ b) (h1 : b < h.bs.length) : 1 ≤ (bunG h b).hund ∧ 0 ≤ (bunG h b).ed := by
  obtain ⟨x, hx⟩ := get_of (l := h.bs) (j := b.toNat) (by omega)
  have e : bunG h b = x := by simp [bunG, hx]
  have := hk.2.2.2.2.2.2.2 x (List.mem_of_getElem? hx)
  rw [e]; exact ⟨this.2.1.1, this.2.2.1⟩
theorem Sub.run {i : Nat} {h' h : House} (s : Sub i h' h) (hk : okG h) {pc : Int} (hp : 0 ≤ pc) : ∀ (l : List Int) (now bef now' bef' : Int) (T T' : List Int), (∀ b, b ∈ l → 0 ≤ b ∧ b < h.bs.length) → 0 ≤ now' → now' + chg h bef' bef ≤ now → (0 ≤ bef' → 0 ≤ bef) → T.length = 5 → T'.length = 5 → (∀ j, j < h'.bs.length → Um i T' T j) → ∀ j, j < h'.bs.length → Um i (runM h' pc (ren i l) now' bef' T') (runM h pc l now bef T) j
  | [], _, _, _, _, _, _, _, _, _, _, _, _, hU, j, hj => hU j hj
  | b :: l, now, bef, now', bef', T, T', hl, h0, hn, hb, hT, hT', hU, j, hj => by
    have h5 := hk.2.2.2.1
    have hc0 : 0 ≤ h.ch := hk.2.2.2.2.1.1
    have hbb := hl b (by simp)
    have hx := bun_in hk hbb.1 hbb.2
    have hnb := s.nb
    have hmul : 0 ≤ (bunG h b).hund * pc := Int.mul_nonneg (by omega) hp
    have t1 := chg_tri hc0 (c := (bunG h b).ed) hb
    have t0 := chg_ge hc0 bef' (bunG h b).ed
    have hch : ∀ x y, chg h' x y = chg h x y := fun x y => by unfold chg; rw [s.ch]
    have hbt : b.toNat < T.length := by omega
    rw [runM]
    by_cases he : b = i
    · have e1 : ren i (b :: l) = ren i l := by
        unfold ren; rw [List.filterMap_cons]; simp [rn, he]
      rw [e1]
      have sj : ∀ j, sk i j ≠ b.toNat := fun j => by unfold sk; split <;> omega
      refine s.run hk hp l _ _ now' bef' _ T' (fun c hc => hl c (by simp [hc])) h0 ?_ (fun _ => hx.2) (by simpa using hT) hT' (fun j hj => ?_) j hj
      · rw [nxt_chg]; omega
      · have := hU j hj
        unfold Um at this ⊢
        rw [gv_set hbt, if_neg (sj j)]; exact this
    · have e0 : ∃ b' : Nat, rn i b = some (b' : Int) ∧ sk i b' = b.toNat ∧ b' < h'.bs.length := by
        unfold rn sk
        by_cases hlt : b < i
        · exact ⟨b.toNat, by rw [if_pos hlt]; congr 1; omega, by rw [if_pos (by omega)], by rw [hnb]; split <;> omega⟩
        · exact ⟨b.toNat - 1, by rw [if_neg hlt, if_neg he]; congr 1; omega, by rw [if_neg (by omega)]; omega, by rw [hnb]; split <;> omega⟩
      obtain ⟨b', e1, e2, e3⟩ := e0
      have e4 : ren i (b :: l) = (b' : Int) :: ren i l := by unfold ren; rw [List.filterMap_cons, e1]
      have e5 : bunG h' b' = bunG h b := by unfold bunG; rw [Int.toNat_natCast, s.get, e2]
      have hbt' : b' < T'.length := by rw [hT']; rw [hnb] at e3; split at e3 <;> omega
      have n0 : 0 ≤ nxt h' pc now' bef' b' := by rw [nxt_chg, e5, hch]; omega
      have n1 : nxt h' pc now' bef' b' ≤ nxt h pc now bef b := by rw [nxt_chg, nxt_chg, e5, hch]; omega
      rw [e4, runM, Int.toNat_natCast, e5]
      refine s.run hk hp l _ _ _ _ _ _ (fun c hc => hl c (by simp [hc])) n0 ?_ (fun _ => hx.2) (by simpa using hT) (by simpa using hT') (fun j hj => ?_) j hj
      · have : chg h (bunG h b).ed (bunG h b).ed = 0 := by unfold chg; rw [if_neg (by simp)]
        omega
      · have := hU j hj
        unfold Um at this ⊢
        rw [gv_set hbt', gv_set hbt]
        by_cases hjb : j = b'
        · subst hjb; rw [if_pos rfl, if_pos e2]; exact .inr ⟨n0, n1⟩
        · have : sk i j ≠ b.toNat := by rw [← e2]; unfold sk; split <;> split <;> omega
          rw [if_neg hjb, if_neg this]; assumption
theorem Sub.timF {i : Nat} {h' h : House} (s : Sub i h' h) (hk : okG h) : ∀ (ms' ms : List Mach) (p : List (List Int)) (T T' : List Int), ms'.length = ms.length → (∀ (j : Nat) (m' m : Mach), ms'[j]? = some m' → ms[j]? = some m → 0 ≤ m'.ready ∧ m'.ready ≤ m.ready ∧ m'.pace = m.pace ∧ 0 ≤ m.pace) → (∀ l, l ∈ p → ∀ b, b ∈ l → 0 ≤ b ∧ b < h.bs.length) → T.length = 5 → T'.length = 5 → (∀ j, j < h'.bs.length → Um i T' T j) → ∀ j, j < h'.bs.length → Um i (timF h' ms' (p.map (ren i)) T') (timF h ms p T) j
  | [], [], p, T, T', _, _, _, _, _, hU, j, hj => by simpa [Go.Proofs.Ytoadkchhimojlaa.timF] using hU j hj
  | [], m :: ms, p, T, T', hl, _, _, _, _, _, _, _ => by simp at hl
  | m' :: ms', [], p, T, T', hl, _, _, _, _, _, _, _ => by simp at hl
  | m' :: ms', m :: ms, [], T, T', _, _, _, _, _, hU, j, hj => by simpa [Go.Proofs.Ytoadkchhimojlaa.timF] using hU j hj
  | m' :: ms', m :: ms, l :: p, T, T', hl, hm, hp, hT, hT', hU, j, hj => by
    have h0 := hm 0 m' m rfl rfl
    rw [List.map_cons, Go.Proofs.Ytoadkchhimojlaa.timF, Go.Proofs.Ytoadkchhimojlaa.timF, h0.2.2.1]
    refine s.timF hk ms' ms p _ _ (by simpa using hl) (fun j a b ha hb => hm (j + 1) a b (by simpa using ha) (by simpa using hb)) (fun l hl => hp l (by simp [hl])) (by rw [runM_len, hT]) (by rw [runM_len, hT']) (fun j hj => ?_) j hj
    refine s.run hk h0.2.2.2 l _ _ _ _ _ _ (hp l (by simp)) h0.1 ?_ (fun q => by omega) hT hT' hU j hj
    have : chg h (-1) (-1) = 0 := by unfold chg; rw [if_neg (by simp)]
    omega
theorem Sub.um {i : Nat} {h' h : House} (s : Sub i h' h) (hk : okG h) {p : List (List Int)} (hp : ∀ l, l ∈ p → ∀ b, b ∈ l → 0 ≤ b ∧ b < h.bs.length) {j : Nat} (hj : j < h'.bs.length) : Um i (tim h' (p.map (ren i))) (tim h p) j := by
  refine s.timF hk h'.ms h.ms p t0 t0 s.len (fun j m' m h1 h2 => ?_) hp rfl rfl (fun j hj => ?_) j hj
  · have a := s.ms j m' m h1 h2
    have b := hk.2.2.2.2.2.1 m (List.mem_of_getElem? h2)
    have := b.2.1.1
    exact ⟨a.1, a.2.1, a.2.2.1, by omega⟩
  · have h5 := hk.2.2.2.1
    have hnb := s.nb
    have hg : ∀ k : Nat, k < 5 → gv t0 k = -1 := by
      intro k hk
      have : k = 0 ∨ k = 1 ∨ k = 2 ∨ k = 3 ∨ k = 4 := by omega
      rcases this with rfl | rfl | rfl | rfl | rfl <;> rfl
    exact .inl ⟨hg _ (by split at hnb <;> omega), hg _ (by unfold sk; split at hnb <;> split <;> omega)⟩
theorem Sub.rdy {i : Nat} {h' h : House} (s : Sub i h' h) (hk : okG h) {p : List (List Int)} (hp : ∀ l, l ∈ p → ∀ b, b ∈ l → 0 ≤ b ∧ b < h.bs.length) (t : Nat) (ht : t < h.ts.length) : gv (rdy h' (tim h' (p.map (ren i)))) t ≤ gv (rdy h (tim h p)) t := by
  have h4 := hk.2.2.1
  have hr : ∀ x, x ∈ h.bs → 0 ≤ x.train ∧ x.train < r0.length := fun x hx => by
    have := (hk.2.2.2.2.2.2.2 x hx).1
    have e : r0.length = 4 := rfl
    unfold within at this
    rw [e]; omega
  have hr' : ∀ x, x ∈ h'.bs → 0 ≤ x.train ∧ x.train < r0.length := fun x hx => by
    rw [s.bs] at hx
    rcases List.mem_append.1 hx with hx | hx
    · exact hr x (List.mem_of_mem_take hx)
    · exact hr x (List.mem_of_mem_drop hx)
  have ht4 : t < r0.length := by
    have e : r0.length = 4 := rfl
    omega
  have hA := (rdF_le (tim h p) t (gv (Go.Proofs.Ytoadkchhimojlaa.rdy h (tim h p)) t) h.bs 0 r0 ht4 hr).1 (Int.le_refl _)
  refine (rdF_le (tim h' (p.map (ren i))) t _ h'.bs 0 r0 ht4 hr').2 ⟨hA.1, fun j x hj hx => ?_⟩
  have hj' := hj
  rw [s.get] at hj'
  have h1 := hA.2 _ x hj' hx
  have h2 := (s.um hk hp (j := j) (List.getElem?_eq_some_iff.1 hj).1).tb
  rw [Nat.zero_add] at h1 ⊢
  omega
theorem Sub.bits {i : Nat} {h' h : House} (s : Sub i h' h) (hk : okG h) {p : List (List Int)} (hp : ∀ l, l ∈ p → ∀ b, b ∈ l → 0 ≤ b ∧ b < h.bs.length) : (ltG h' (Go.Proofs.Ytoadkchhimojlaa.rdy h' (tim h' (p.map (ren i))))).toNat &&& (ltG h (Go.Proofs.Ytoadkchhimojlaa.rdy h (tim h p))).toNat = (ltG h' (Go.Proofs.Ytoadkchhimojlaa.rdy h' (tim h' (p.map (ren i))))).toNat := by
  have := ltM_sub s.ts (R := Go.Proofs.Ytoadkchhimojlaa.rdy h (tim h p)) (R' := Go.Proofs.Ytoadkchhimojlaa.rdy h' (tim h' (p.map (ren i)))) (fun t ht => s.rdy hk hp t ht) hk.2.2.1 h.ts.length (Nat.le_refl _)
  unfold ltG; rw [s.ts]; exact this
theorem Sub.late {i : Nat} {h' h : House} (s : Sub i h' h) (hk : okG h) (hk' : okG h') {p : List (List Int)} (hp : ∀ l, l ∈ p → ∀ b, b ∈ l → 0 ≤ b ∧ b < h.bs.length) : lateN h' (p.map (ren i)) ≤ lateN h p := by
  have b1 := lt_bd hk' (Go.Proofs.Ytoadkchhimojlaa.rdy h' (tim h' (p.map (ren i))))
  have b2 := lt_bd hk (Go.Proofs.Ytoadkchhimojlaa.rdy h (tim h p))
  have := pop_sub _ (by omega) _ (by omega) (s.bits hk hp)
  rw [Int.toNat_of_nonneg b1.1, Int.toNat_of_nonneg b2.1] at this
  exact this
theorem Sub.but {i : Nat} {h' h : House} (s : Sub i h' h) (hk : okG h) {p : List (List Int)} (hp : ∀ l, l ∈ p → ∀ b, b ∈ l → 0 ≤ b ∧ b < h.bs.length) {but : Int} (hb : butN h but p = 0) : butN h' but (p.map (ren i)) = 0 := by
  unfold butN at hb ⊢
  rw [← s.bits hk hp, Nat.and_assoc, hb, Nat.and_zero]
end Go.Proofs.Ytoadkchhimojlaa

