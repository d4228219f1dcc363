/- Walks of functions: impl.numbers, impl.spaced -/
import Derived.Test.YtgcjdkgddnnlpaaE7Q
import Derived.Test.YtgcjdkgddnnlpaaBaseG
import Derived.Test.YtgcjdkgddnnlpaaE6g2
set_option linter.unusedSimpArgs false
set_option linter.unusedVariables false
set_option linter.unnecessarySimpa false
namespace Go.Tw
open Go.Proofs

set_option maxRecDepth 100000 in
set_option maxHeartbeats 4000000 in
theorem pc_impl_numbers (xs : List Int) (hx : xs.length ≤ 1000) (hq : ∀ x ∈ xs, 0 ≤ x ∧ x ≤ 9223372036854775807) : PC Try.prog 139 [(false, [.sl 1 (enc eI xs)])] [(false, [.sl 1 (enc eStr (xs.map fun n => dgB n.toNat))])] := by
  refine PC_of (n := 20) Try.func139 rfl rfl rfl rfl (by simp) ?_
  refine W_seqK fun K1 h1 => ?_
  refine W_reg ?_
  simp [go_sem, ty9, ty122]
  repeat refine ⟨by first | omega | grind, ?_⟩
  refine h1 _ ?_
  clear h1 K1
  refine W_seqK fun K2 h2 => ?_
  refine W_reg ?_
  simp [go_sem, ty9, ty122]
  repeat refine ⟨by first | omega | grind, ?_⟩
  refine h2 _ ?_
  clear h2 K2
  refine W_seqK fun K3 h3 => ?_
  refine W_seqK fun K4 h4 => ?_
  refine W_reg ?_
  simp [go_sem, ty3, ty22]
  repeat refine ⟨by first | omega | grind, ?_⟩
  refine h4 _ ?_
  clear h4 K4
  refine W_block ?_
  refine W_loopI (α := Nat) (fun i => ({ env := [(3, true, .l (.ref 40 [] 1 0 (((dgN xs i)).length))), (7, true, .l (.ref 0 [] 1 0 (xs).length)), (8, true, .l (.t (.int .i64 ((xs.length : Int))))), (9, true, .l (.t (.int .i64 (i))))], box := [], row := [(0, ⟨.ro, 1, enc eI xs⟩), (40, ⟨.own, 1, enc eStr (dgN xs i)⟩)], nxt := 60, sav := [] } : St)) (fun i => i ≤ xs.length) (fun i => xs.length - i) 0 ?_ ?_ ?_
  · exact (Sub.nilRow (t := 3) (nm := 40) (z := 1) (by rfl) (by rfl)).trans (Sub.of_neat [3, 7, 8, 9] [0, 40] [] 60 (by decide) (by simp [go_sem, enc_nil, dgN_zero]))
  · exact Nat.zero_le _
  rintro i hinv
  have hul := dgN_len hinv
  refine W_seqK fun K6 h6 => ?_
  refine W_reg ?_
  simp [go_sem, ty3]
  repeat refine ⟨by first | omega | grind, ?_⟩
  refine h6 _ ?_
  clear h6 K6
  refine W_seqK fun K7 h7 => ?_
  refine W_cond rfl (fun hb8 => ?_) fun hb8 => ?_
  · have hlt : i < xs.length := by simpa using hb8
    obtain ⟨hx0, hx1⟩ := hq _ (List.getElem_mem hlt)
    have hst := dgN_succ hlt
    clear hb8
    refine W_skip ?_
    repeat refine ⟨by first | omega | grind, ?_⟩
    refine h7 _ ?_
    clear h7 K7
    refine W_seqK fun K9 h9 => ?_
    refine W_block ?_
    refine W_seqK fun K10 h10 => ?_
    refine W_reg ?_
    simp [go_sem, ty3, ty22, hlt]
    repeat refine ⟨by first | omega | grind, ?_⟩
    refine h10 _ ?_
    clear h10 K10
    refine W_reg ?_
    simp [go_sem, ty3, ty9, ty122, hlt]
    refine callG_pc (fun hG => pc_impl_digits xs[i] (by omega) (by omega)) (by first | (simp; done) | (simp [inR_iff]; done) | (simp [inR_iff]; grind) | grind) (fun hG => by simp [go_sem, hlt, hlt]) rfl rfl (by first | exact Or.inl rfl | exact Or.inr rfl) ?_
    simp [go_sem, ty9, ty122, hlt]
    refine ⟨by omega, ?_⟩
    repeat refine ⟨by first | omega | grind, ?_⟩
    refine h9 _ ?_
    clear h9 K9
    refine W_reg ?_
    simp [go_sem, ty3, hlt]
    refine ⟨i + 1, ?_, ?_, ?_⟩
    · exact (Sub.swp_row 62 40 rfl).trans (Sub.of_neat [3, 7, 8, 9] [0, 40] [] 60 (by decide) (by simp [go_sem, wrap_succ (show i < 9223372036854775807 by omega), hst, hul, dgN_len hlt]))
    · exact hlt
    · omega
  · obtain rfl : i = xs.length := by simp at hb8; omega
    have hfu := dgN_full xs
    clear hb8
    refine W_exit ?_
    simp [go_sem]
    repeat refine ⟨by first | omega | grind, ?_⟩
    refine h3 _ ?_
    clear h7 K7 h3 K3
    refine W_seqK fun K11 h11 => ?_
    refine W_reg ?_
    simp [go_sem, ty9, ty122]
    repeat refine ⟨by first | omega | grind, ?_⟩
    refine h11 _ ?_
    clear h11 K11
    refine W_ret ?_
    simp [go_sem, hfu]

set_option maxRecDepth 100000 in
set_option maxHeartbeats 4000000 in
theorem pc_impl_spaced (xs : List Int) (hx : xs.length ≤ 1000) (hq : ∀ x ∈ xs, 0 ≤ x ∧ x ≤ 9223372036854775807) : PC Try.prog 94 [(false, [.sl 1 (enc eI xs)])] [(false, [.str (joinT (xs.map fun n => dgB n.toNat) ⟨#[32]⟩)])] := by
  refine PC_of (n := 6) Try.func94 rfl rfl rfl rfl (by simp) ?_
  refine W_seqK fun K1 h1 => ?_
  refine W_reg ?_
  simp [go_sem, ty9]
  repeat refine ⟨by first | omega | grind, ?_⟩
  refine h1 _ ?_
  clear h1 K1
  refine W_seqK fun K2 h2 => ?_
  refine W_reg ?_
  simp [go_sem, ty3, ty9, ty22, ty122]
  refine callG_pc (fun hG => pc_impl_numbers xs (by assumption) (by assumption)) (by first | (simp; done) | (simp [inR_iff]; done) | (simp [inR_iff]; grind) | grind) (fun hG => by simp [go_sem]) rfl rfl (by first | exact Or.inl rfl | exact Or.inr rfl) ?_
  simp [go_sem, ty9, ty122]
  refine callG_pc (fun hG => pc_strings_Join (xs.map fun n => dgB n.toNat) ⟨#[32]⟩ (by simp; omega) (by intro s hs; obtain ⟨n, hn, rfl⟩ := List.mem_map.1 hs; have := dgB_small (n := n.toNat) (by have := hq n hn; omega); omega) (by decide)) (by first | (simp; done) | (simp [inR_iff]; done) | (simp [inR_iff]; grind) | grind) (fun hG => by simp [go_sem]) rfl rfl (by first | exact Or.inl rfl | exact Or.inr rfl) ?_
  simp [go_sem, ty9]
  repeat refine ⟨by first | omega | grind, ?_⟩
  refine h2 _ ?_
  clear h2 K2
  refine W_ret ?_
  simp [go_sem]
end Go.Tw
