/- Contracts of functions of the given program, without a condition beyond those that each theorem states; they lead to the given statement. -/
import Derived.Test.YtoadkchhimojlaaK01f
import Derived.Test.YtoadkchhimojlaaFlC
set_option linter.unusedSimpArgs false
set_option linter.unusedVariables false
set_option maxRecDepth 100000
namespace Go.Proofs.Ytoadkchhimojlaa
open Go Go.Fl
open Classical
def plansG (h : House) (stop : Int) : List (List (List Int)) := plansF h.ms.length stop h.bs.length (h.ms.length + h.bs.length + 1) 0 (List.replicate h.ms.length [])
theorem usd_nil (k i : Nat) : usd (List.replicate k []) i = false := by
  rw [← Bool.not_eq_true, usd_iff]
  rintro ⟨l, h1, h2⟩
  rw [List.eq_of_mem_replicate h1] at h2; simp at h2
theorem okQ_nil (k nb : Nat) : okQ k nb (List.replicate k []) := by
  refine ⟨by simp, fun l hl b hb => ?_, ?_⟩
  · rw [List.eq_of_mem_replicate hl] at hb; simp at hb
  · have h1 : ∀ k, lens (List.replicate k []) = 0 := by
      intro k
      induction k with
      | zero => rfl
      | succ k ih => simp [List.replicate_succ, lens, ih]
    have h2 : ∀ n, cnt (usd (List.replicate k [])) n = n := by
      intro n
      induction n with
      | zero => rfl
      | succ n ih => rw [cnt, ih, usd_nil]; simp
    rw [h1, h2]; omega
theorem bs_nil (k : Nat) : bs (usd (List.replicate k [])) 5 = 0 := by
  simp [bs, usd_nil]
theorem rep_getD (k m : Nat) : (List.replicate k ([] : List Int)).getD m [] = [] := by
  rw [List.getD_eq_getElem?_getD, List.getElem?_replicate]; split <;> rfl
theorem c71 (h : House) (stop : Int) : PC Try.prog 71 [hG h, .int .i64 stop] (.fn 93 [.pp (cG h), .pp [.int .i64 stop]]) := by
  refine PC.body Try.func71 (by kernel_rfl) rfl (by simp [Try.f71]) rfl ?_
  simp only [Try.f71]
  intro hlen
  simp only [go_sem, List.length_map, and_true, true_and] at hlen
  refine CV.run ?_
  (repeat' (first | ((with_reducible first | refine vcG_split ?_ ?_ | refine vcIf_split ?_ ?_ | refine vcQ_split ?_ ?_ | refine vcDG_split ?_ ?_) <;> intro hb <;> (try rw [hb]) <;> (try simp only [bq, bz, dtrue, dfalse] at hb) <;> (try simp only [within] at hb) <;> try (simp only [go_sem])) | refine And.intro (by first | exact trivial | omega | (simp only [I64]; omega)) ?_ | (simp only [go_sem])))
set_option maxHeartbeats 1000000 in
theorem c93 {σ : Type} (h : House) (hk : okG h) (b l : Nat) (stop : Int) (HC : σ → Heap) (al : σ → Prop) (st : σ → List (List Int) → σ × Bool) (hc : Cons σ h b l stop HC al st) (s : σ) (hal : al s) :
    HCH Try.prog 93 [.yld l, .pp (cG h), .pp [.int .i64 stop]] (HC s) fun r H' => ∃ rest, H' = HC (runC st s (plansG h stop)).1 ++ rest := by
  obtain ⟨k1, k2, k3, k4, k5, k6, k7, k8⟩ := id hk
  have hlen := hc.len
  have ga1 : ∀ (s : σ) (own : Heap) (i : Nat), (HC s ++ own)[b + i]? = own[i]? := fun s own i => ga (hlen s) i
  have ga2 : ∀ (s : σ) (own : Heap), (HC s ++ own)[b]? = own[0]? := fun s own => ga0 (hlen s)
  have sa1 : ∀ (s : σ) (own : Heap) (i : Nat) (v : Blk), (HC s ++ own).set (b + i) v = HC s ++ own.set i v := fun s own i v => sa (hlen s) i v
  have tn : ((h.ms.length : Int)).toNat = h.ms.length := Int.toNat_natCast _
  have h94 := c94 h hk b l stop HC al st hc (h.ms.length + h.bs.length + 1) 0 (List.replicate h.ms.length []) s (fun _ => []) (fun _ => 0) (okQ_nil _ _) (Nat.zero_le _) (by have := cnt_le (usd (List.replicate h.ms.length [])) h.bs.length; omega) hal
  refine HCH.body Try.func93 (by kernel_rfl) rfl (by simp [Try.f93]) ?_
  simp only [Try.f93]
  refine CV.run ?_
  (repeat' (first | ((with_reducible first | refine vcG_split ?_ ?_ | refine vcIf_split ?_ ?_ | refine vcQ_split ?_ ?_ | refine vcDG_split ?_ ?_) <;> intro hb <;> (try rw [hb]) <;> (try simp only [bq, bz, dtrue, dfalse] at hb) <;> (try simp only [within] at hb) <;> try (simp only [go_sem, ga1, ga2, sa1, hlen, tn, List.append_assoc, List.length_append, List.length_replicate])) | refine And.intro (by first | exact trivial | omega | (simp only [I64]; omega)) ?_ | (simp only [go_sem, ga1, ga2, sa1, hlen, tn, List.append_assoc, List.length_append, List.length_replicate])))
  refine vcP_raw ?_
  rw [show ∀ A B C D E : Blk, HC s ++ [A, B, C, D, E] = (HC s ++ [A]) ++ B :: [C, D, E] from fun A B C D E => by simp]
  refine HCH.nilGs (el := 3) (sz := 1) (by omega) _ _ _ ?_
  have e : ∀ (A C D E : Blk), (HC s ++ [A]) ++ Blk.row 24 1 ((List.range h.ms.length).map fun m => [.rg ((HC s ++ [A]).length + 1 + [C, D, E].length + m) 0 0]) false :: ([C, D, E] ++ (List.range h.ms.length).map fun _ => .rg 3 1 [] 0) =
      HC s ++ (A :: .row 24 1 ((List.range h.ms.length).map (rowE b (List.replicate h.ms.length []) fun _ => 0)) false :: C :: D :: E :: (List.range h.ms.length).map (rgE (List.replicate h.ms.length []) (fun _ => []) fun _ => 0)) := by
    intro A C D E
    have e1 : (fun m => [AV.rg ((HC s ++ [A]).length + 1 + [C, D, E].length + m) 0 0]) = rowE b (List.replicate h.ms.length []) fun _ => 0 := by
      funext m
      simp only [rowE, rep_getD, List.length_append, hlen, List.length_cons, List.length_nil]
      congr 2; omega
    have e2 : (fun _ => Blk.rg 3 1 [] 0) = rgE (List.replicate h.ms.length []) (fun _ => []) fun _ => 0 := by
      funext m
      simp only [rgE, rep_getD, List.append_nil, List.map_nil]
    rw [e1, e2]; simp
  rw [e]
  unfold ownP at h94
  rw [bs_nil] at h94
  refine h94.mono ?_
  rintro r H' ⟨j', g', rfl, rfl, _⟩
  (repeat' (first | ((with_reducible first | refine vcG_split ?_ ?_ | refine vcIf_split ?_ ?_ | refine vcQ_split ?_ ?_ | refine vcDG_split ?_ ?_) <;> intro hb <;> (try rw [hb]) <;> (try simp only [bq, bz, dtrue, dfalse] at hb) <;> (try simp only [within] at hb) <;> try (simp only [go_sem])) | refine And.intro (by first | exact trivial | omega | (simp only [I64]; omega)) ?_ | (simp only [go_sem])))
  exact ⟨_, rfl⟩
theorem runC_al {σ α : Type} (st : σ → α → σ × Bool) : ∀ (L : List α) (s : σ), runC (fun (x : σ × Bool) a => (((st x.1 a).1, (st x.1 a).2), (st x.1 a).2)) (s, true) L = ((runC st s L), (runC st s L).2)
  | [], s => rfl
  | a :: L, s => by
    simp only [runC]
    split
    · rename_i h
      rw [← runC_al st L]; rw [h]
    · rename_i h
      have : (st s a).2 = false := by simpa using h
      rw [this]
theorem c93L {σ : Type} (h : House) (hk : okG h) (b l : Nat) (stop : Int) (nt0 : Nat) (ps : Array Tmp) (assign body : Code) (env0 : Env) (HC0 : σ → Heap) (cd : σ → Code) (st : σ → List (List Int) → σ × Bool) (hlen : ∀ s, (HC0 s).length + 1 = b)
    (hy : ∀ s p j g LB, LB = .loop l nt0 ps assign body env0 → okQ h.ms.length h.bs.length p → HCY Try.prog l [.row (b + 1) h.ms.length, .agg ((rdy h (tim h p)).map I)] (HC0 s ++ LB :: ownP b l h stop p j g) fun r H2 => r = .bool (st s p).2 ∧ H2 = HC0 (st s p).1 ++ (if (st s p).2 = true then LB else .lpe l (cd (st s p).1)) :: ownP b l h stop p j g) (s : σ) :
    HCH Try.prog 93 [.yld l, .pp (cG h), .pp [.int .i64 stop]] (HC0 s ++ [.loop l nt0 ps assign body env0]) fun r H' => ∃ rest, H' = HC0 (runC st s (plansG h stop)).1 ++ (if (runC st s (plansG h stop)).2 = true then .loop l nt0 ps assign body env0 else .lpe l (cd (runC st s (plansG h stop)).1)) :: rest := by
  have hc : Cons (σ × Bool) h b l stop (fun x => HC0 x.1 ++ [if x.2 = true then .loop l nt0 ps assign body env0 else .lpe l (cd x.1)]) (fun x => x.2 = true) (fun x a => (((st x.1 a).1, (st x.1 a).2), (st x.1 a).2)) := by
    refine ⟨fun x => by have := hlen x.1; simpa using this, fun x p _ _ h => h, fun x p j g ha hq => ?_⟩
    obtain ⟨s, a⟩ := x
    have ha : a = true := ha
    subst ha
    have := hy s p j g _ rfl hq
    simp only [List.append_assoc, List.cons_append, List.nil_append, if_true]
    exact this
  have := c93 h hk b l stop _ _ _ hc (s, true) rfl
  refine (this.mono ?_)
  rintro r H' ⟨rest, rfl⟩
  rw [runC_al]
  exact ⟨rest, by simp⟩
end Go.Proofs.Ytoadkchhimojlaa

