/- A part of the proof. -/
import Derived.Test.YtgeodifpcminpaaPwVC
set_option linter.all false
open Go Go.Pw
namespace Go.Pw
theorem pw_loopP {E : Env} {Q : PExit → PSt → Prop} {s : PSt} {α : Type} (up : α → List (Nat × AV)) (uo : α → List (Nat × AObj)) (Inv : α → Prop) (μ : α → Nat) (B : Nat) {gs : List Ghost} {ks os : List Nat} {a : PC}
    {S0 : PSt} (l1 : List (Nat × AV)) (m1 : List (Nat × (Nat × AObj))) (h0 : ghosts gs s fun s1 => s1.nrm ks os = S0)
    (first : pw E a (thenQ (fun s' => ghosts gs s' fun s1 => ∃ y, s1.nrm ks os = ⟨look (setLs l1 (up y)), ⟨lookO (setOs m1 (uo y)), fun _ => 1⟩⟩ ∧ Inv y ∧ μ y < B) Q) S0)
    (step : ∀ x, Inv x → pw E a (thenQ (fun s' => ghosts gs s' fun s1 => ∃ y, s1.nrm ks os = ⟨look (setLs l1 (up y)), ⟨lookO (setOs m1 (uo y)), fun _ => 1⟩⟩ ∧ Inv y ∧ μ y < μ x) Q) ⟨look (setLs l1 (up x)), ⟨lookO (setOs m1 (uo x)), fun _ => 1⟩⟩) :
    pw E (.loop gs ks os a) Q s := by
  have mono : ∀ {n : Nat} {e : PExit} {t : PSt}, thenQ (fun s' => ghosts gs s' fun s1 => ∃ y, s1.nrm ks os = ⟨look (setLs l1 (up y)), ⟨lookO (setOs m1 (uo y)), fun _ => 1⟩⟩ ∧ Inv y ∧ μ y < n) Q e t →
      thenQ (fun s' => ghosts gs s' fun s1 => ∃ m, m < n ∧ ((m = B ∧ s1.nrm ks os = S0 ∧ False) ∨ ∃ x, m = μ x ∧ s1.nrm ks os = ⟨look (setLs l1 (up x)), ⟨lookO (setOs m1 (uo x)), fun _ => 1⟩⟩ ∧ Inv x)) Q e t := by
    intro n e t h
    cases e with
    | normal => exact ghosts_mono (fun s1 h => by obtain ⟨y, h1, h2, h3⟩ := h; exact ⟨μ y, h3, .inr ⟨y, rfl, h1, h2⟩⟩) h
    | ret => exact h
    | exit id => exact h
  refine ⟨fun n s' => (n = B ∧ s' = S0) ∨ ∃ x, n = μ x ∧ s' = ⟨look (setLs l1 (up x)), ⟨lookO (setOs m1 (uo x)), fun _ => 1⟩⟩ ∧ Inv x, ghosts_mono (fun s1 h => ⟨B, .inl ⟨rfl, h⟩⟩) h0, ?_⟩
  rintro n s' (⟨rfl, rfl⟩ | ⟨x, rfl, rfl, hx⟩)
  · refine pw_mono first (fun e t h => ?_)
    have := mono h
    cases e with
    | normal => exact ghosts_mono (fun s1 h => by obtain ⟨m, h1, h2⟩ := h; exact ⟨m, h1, h2.imp (fun q => q.2.2.elim) id⟩) this
    | ret => exact h
    | exit id => exact h
  · refine pw_mono (step x hx) (fun e t h => ?_)
    have := mono h
    cases e with
    | normal => exact ghosts_mono (fun s1 h => by obtain ⟨m, h1, h2⟩ := h; exact ⟨m, h1, h2.imp (fun q => q.2.2.elim) id⟩) this
    | ret => exact h
    | exit id => exact h
end Go.Pw
