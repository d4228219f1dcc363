/- Walks of functions: impl.EventText, spec.EventText -/
import Derived.Test.YtgcjdkgddnnlpaaE7Q
set_option linter.unusedSimpArgs false
set_option linter.unusedVariables false
set_option linter.unnecessarySimpa false
namespace Go.Tw
open Go.Proofs

set_option maxRecDepth 100000 in
set_option maxHeartbeats 4000000 in
theorem pc_impl_EventText (e : GEvent) (ok_e : e.ok) : PC Try.prog 31 [(true, eEvent e)] [(false, [.str (evText e)])] := by
  have ho := ok_e
  unfold GEvent.ok at ho
  obtain ⟨⟨-, b1⟩, ⟨-, b2⟩, ⟨-, b3⟩, ⟨-, b4⟩, -, b5⟩ := ho
  have z1 := sgB_size b1
  have z2 := sgB_size b2
  have z3 := sgB_size b3
  have z4 := sgB_size b4
  have z5 := sgB_size b5
  refine PC_of (n := 16) Try.func31 rfl rfl rfl rfl (by simp) ?_
  refine W_seqK fun K1 h1 => ?_
  refine W_reg ?_
  simp [go_sem, ty9, ty54]
  repeat refine ⟨by first | omega | grind, ?_⟩
  refine h1 _ ?_
  clear h1 K1
  refine W_seqK fun K2 h2 => ?_
  refine W_reg ?_
  simp [go_sem, ty3, ty9, ty22, ty54, ty122]
  refine callG_pc (fun hG => pc_impl_signs ([e.who, e.pc, e.at_, e.got, e.put]) (by simp) (by intro x hx; simp at hx; rcases hx with rfl | rfl | rfl | rfl | rfl <;> assumption)) (by first | (simp; done) | (simp [inR_iff]; done) | (simp [inR_iff]; grind) | grind) (fun hG => by simp [go_sem]; simp [enc, eI]) rfl rfl (by first | exact Or.inl rfl | exact Or.inr rfl) ?_
  simp [go_sem, ty9, ty122]
  refine callG_pc (fun hG => pc_strings_Join ([e.who, e.pc, e.at_, e.got, e.put].map sgB) ⟨#[32]⟩ (by simp) (by intro x hx; simp at hx; rcases hx with rfl | rfl | rfl | rfl | rfl <;> omega) (by decide)) (by first | (simp; done) | (simp [inR_iff]; done) | (simp [inR_iff]; grind) | grind) (fun hG => by simp [go_sem]) rfl rfl (by first | exact Or.inl rfl | exact Or.inr rfl) ?_
  simp [go_sem, ty9]
  repeat refine ⟨by first | omega | grind, ?_⟩
  refine h2 _ ?_
  clear h2 K2
  refine W_ret ?_
  simp [go_sem, evText]

set_option maxRecDepth 100000 in
set_option maxHeartbeats 4000000 in
theorem pc_spec_EventText (e : GEvent) (ok_e : e.ok) : PC Try.prog 29 [(true, eEvent e)] [(false, [.str (evText e)])] := by
  have ho := ok_e
  unfold GEvent.ok at ho
  obtain ⟨⟨-, b1⟩, ⟨-, b2⟩, ⟨-, b3⟩, ⟨-, b4⟩, -, b5⟩ := ho
  have z1 := sgB_size b1
  have z2 := sgB_size b2
  have z3 := sgB_size b3
  have z4 := sgB_size b4
  have z5 := sgB_size b5
  have hsz : (⟨#[32]⟩ : ByteArray).size = 1 := rfl
  refine PC_of (n := 26) Try.func29 rfl rfl rfl rfl (by simp) ?_
  refine W_seqK fun K1 h1 => ?_
  refine W_reg ?_
  simp [go_sem, ty9, ty54]
  repeat refine ⟨by first | omega | grind, ?_⟩
  refine h1 _ ?_
  clear h1 K1
  refine W_seqK fun K2 h2 => ?_
  refine W_drawO true [0, 1, 4, 5, 9, 10, 14, 15, 19, 20, 2, 3, 6, 7, 8, 11, 12, 13, 16, 17, 18, 21, 22, 23] mixed (by decide +kernel) ?_
  simp [go_sem, ty3, ty9, ty54, ba_size, hsz]
  refine callG_pc (fun hG => pc_spec_l18Num e.who (by assumption)) (by first | (simp; done) | (simp [inR_iff]; done) | (simp [inR_iff]; grind) | grind) (fun hG => by simp [go_sem]) rfl rfl (by first | exact Or.inl rfl | exact Or.inr rfl) ?_
  simp [go_sem, ty3, ty9, ba_size, hsz]
  repeat (refine ⟨by omega, ?_⟩)
  refine callG_pc (fun hG => pc_spec_l18Num e.pc (by assumption)) (by first | (simp; done) | (simp [inR_iff]; done) | (simp [inR_iff]; grind) | grind) (fun hG => by simp [go_sem]) rfl rfl (by first | exact Or.inl rfl | exact Or.inr rfl) ?_
  simp [go_sem, ty3, ty9, ba_size, hsz]
  repeat (refine ⟨by omega, ?_⟩)
  refine callG_pc (fun hG => pc_spec_l18Num e.at_ (by assumption)) (by first | (simp; done) | (simp [inR_iff]; done) | (simp [inR_iff]; grind) | grind) (fun hG => by simp [go_sem]) rfl rfl (by first | exact Or.inl rfl | exact Or.inr rfl) ?_
  simp [go_sem, ty3, ty9, ba_size, hsz]
  repeat (refine ⟨by omega, ?_⟩)
  refine callG_pc (fun hG => pc_spec_l18Num e.got (by assumption)) (by first | (simp; done) | (simp [inR_iff]; done) | (simp [inR_iff]; grind) | grind) (fun hG => by simp [go_sem]) rfl rfl (by first | exact Or.inl rfl | exact Or.inr rfl) ?_
  simp [go_sem, ty3, ty9, ba_size, hsz]
  repeat (refine ⟨by omega, ?_⟩)
  refine callG_pc (fun hG => pc_spec_l18Num e.put (by assumption)) (by first | (simp; done) | (simp [inR_iff]; done) | (simp [inR_iff]; grind) | grind) (fun hG => by simp [go_sem]) rfl rfl (by first | exact Or.inl rfl | exact Or.inr rfl) ?_
  simp [go_sem, ty9, ba_size, hsz]
  repeat refine ⟨by first | omega | grind, ?_⟩
  refine h2 _ ?_
  clear h2 K2
  refine W_ret ?_
  simp only [evText_plus]
  simp [go_sem]
end Go.Tw
