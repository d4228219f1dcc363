/- Walks of functions: impl.CacheAdd, spec.CacheAdd -/
import Derived.Test.YtafocmjoejchbaaR3u
import Derived.Test.YtafocmjoejchbaaR3i
import Derived.Test.YtafocmjoejchbaaR3me
import Derived.Test.YtafocmjoejchbaaBaseE
set_option linter.unusedSimpArgs false
set_option linter.unusedVariables false
namespace Go.Tw
open Go.Proofs

set_option maxRecDepth 100000 in
set_option maxHeartbeats 4000000 in
theorem pc_impl_CacheAdd (xs : List GBlock) (b : GBlock) (hx : xs.length ≤ 1048576) (hq : ∀ a ∈ xs, a.small) (hb : b.small) : PC Try.prog 16 [(false, [.sl 2 (enc eBlock xs)]), (true, eBlock b)] [(false, [.sl 2 (enc eBlock (cacheAdd xs b))])] := by
  have hb1 := hb
  unfold GBlock.small at hb1
  refine PC_of (n := 26) Try.func16 rfl rfl rfl rfl (by simp) ?_
  refine W_seqK fun K1 h1 => ?_
  refine W_reg ?_
  simp [go_sem, ty28, ty33]
  first | refine h1 _ ?_ | refine ⟨by omega, h1 _ ?_⟩ | refine ⟨by omega, by omega, h1 _ ?_⟩ | (repeat (refine ⟨by first | omega | grind, ?_⟩)); refine h1 _ ?_
  clear h1 K1
  refine W_seqK fun K2 h2 => ?_
  refine W_reg ?_
  simp [go_sem, ty28, ty33]
  refine callG_pc (fun hG => pc_impl_copyBlocks xs (by first | assumption | omega) (by first | assumption | omega)) (by first | (simp; done) | (simp [inR_iff]; done) | (simp [inR_iff]; grind) | grind) (fun hG => by simp [go_sem]) rfl rfl (by first | exact Or.inl rfl | exact Or.inr rfl) ?_
  simp [go_sem, ty28, ty33]
  first | refine h2 _ ?_ | refine ⟨by omega, h2 _ ?_⟩ | refine ⟨by omega, by omega, h2 _ ?_⟩ | (repeat (refine ⟨by first | omega | grind, ?_⟩)); refine h2 _ ?_
  clear h2 K2
  refine W_seqK fun K3 h3 => ?_
  refine W_seqK fun K4 h4 => ?_
  refine W_reg ?_
  simp [go_sem, ty4, ty33]
  refine callG_pc (fun hG => pc_impl_BlockOk b (by first | assumption | omega)) (by first | (simp; done) | (simp [inR_iff]; done) | (simp [inR_iff]; grind) | grind) (fun hG => by simp [go_sem]) rfl rfl (by first | exact Or.inl rfl | exact Or.inr rfl) ?_
  simp [go_sem, ty4]
  first | refine h4 _ ?_ | refine ⟨by omega, h4 _ ?_⟩ | refine ⟨by omega, by omega, h4 _ ?_⟩ | (repeat (refine ⟨by first | omega | grind, ?_⟩)); refine h4 _ ?_
  clear h4 K4
  refine W_cond rfl (fun hb5 => ?_) fun hb5 => ?_
  · have q : cacheAdd xs b = xs := cacheAdd_no (by simpa using hb5)
    clear hb5
    refine W_seqK fun K6 h6 => ?_
    refine W_reg ?_
    simp [go_sem, ty28, ty33]
    first | refine h6 _ ?_ | refine ⟨by omega, h6 _ ?_⟩ | refine ⟨by omega, by omega, h6 _ ?_⟩ | (repeat (refine ⟨by first | omega | grind, ?_⟩)); refine h6 _ ?_
    clear h6 K6
    refine W_ret ?_
    simp [go_sem, q]
  · have qb : blockOk b = true := by simpa using hb5
    clear hb5
    refine W_skip ?_
    first | refine h3 _ ?_ | refine ⟨by omega, h3 _ ?_⟩ | refine ⟨by omega, by omega, h3 _ ?_⟩ | (repeat (refine ⟨by first | omega | grind, ?_⟩)); refine h3 _ ?_
    clear h3 K3
    refine W_seqK fun K7 h7 => ?_
    refine W_seqK fun K8 h8 => ?_
    refine W_reg ?_
    simp [go_sem, ty3, ty4, ty28, ty33]
    first | refine h8 _ ?_ | refine ⟨by omega, h8 _ ?_⟩ | refine ⟨by omega, by omega, h8 _ ?_⟩ | (repeat (refine ⟨by first | omega | grind, ?_⟩)); refine h8 _ ?_
    clear h8 K8
    refine W_cond rfl (fun hb9 => ?_) fun hb9 => ?_
    · have q5 : 5 ≤ xs.length := by simp at hb9; omega
      have q := cacheAdd_full qb q5
      clear hb9
      refine W_reg ?_
      simp [go_sem, ty28, ty33, q5]
      first | refine h7 _ ?_ | refine ⟨by omega, h7 _ ?_⟩ | refine ⟨by omega, by omega, h7 _ ?_⟩ | (repeat (refine ⟨by first | omega | grind, ?_⟩)); refine h7 _ ?_
      clear h7 K7
      refine W_seqK fun K10 h10 => ?_
      refine W_drawS true (.op 0 (.op 1 (.op 3 (.fork 2 (.op 4 (.op 5 (.op 6 (.op 7 (.op 8 (.op 9 .nil)))))) 4 (.fork 2 (.op 5 (.op 6 (.op 7 (.op 8 (.op 9 .nil))))) 5 (.op 2 (.op 6 (.op 7 (.op 8 (.op 9 .nil)))))))))) mixed (by decide +kernel) rfl ?_
      simp [go_sem, ty28, ty33, q5]
      refine ⟨?_, ?_⟩
      · try simp [go_sem, ty3, ty31, ty123, q5]
        refine callG_pc (fun hG => pc_slices_Clone_impl_Ins_impl_Ins b.list (by first | assumption | omega)) (by first | (simp; done) | (simp [inR_iff]; done) | (simp [inR_iff]; grind) | grind) (fun hG => by simp [go_sem, q5]) rfl rfl (by first | exact Or.inl rfl | exact Or.inr rfl) ?_
        simp [go_sem, ty28, ty33, fw33, q5]
        first | refine h10 _ ?_ | refine ⟨by omega, h10 _ ?_⟩ | refine ⟨by omega, by omega, h10 _ ?_⟩ | (repeat (refine ⟨by first | omega | grind, ?_⟩)); refine h10 _ ?_
        clear h10 K10
        refine W_ret ?_
        simp [go_sem, q]
      · try simp [go_sem, ty31, ty123, fw33, q5]
        refine ⟨?_, ?_⟩
        · try simp [go_sem, ty3, ty31, ty123, fw33, q5]
          refine callG_pc (fun hG => pc_slices_Clone_impl_Ins_impl_Ins b.list (by first | assumption | omega)) (by first | (simp; done) | (simp [inR_iff]; done) | (simp [inR_iff]; grind) | grind) (fun hG => by simp [go_sem, q5]) rfl rfl (by first | exact Or.inl rfl | exact Or.inr rfl) ?_
          simp [go_sem, ty28, ty33, fw33, q5]
          first | refine h10 _ ?_ | refine ⟨by omega, h10 _ ?_⟩ | refine ⟨by omega, by omega, h10 _ ?_⟩ | (repeat (refine ⟨by first | omega | grind, ?_⟩)); refine h10 _ ?_
          clear h10 K10
          refine W_ret ?_
          simp [go_sem, q]
        · try simp [go_sem, ty31, ty123, fw33, q5]
          refine callG_pc (fun hG => pc_slices_Clone_impl_Ins_impl_Ins b.list (by first | assumption | omega)) (by first | (simp; done) | (simp [inR_iff]; done) | (simp [inR_iff]; grind) | grind) (fun hG => by simp [go_sem, q5]) rfl rfl (by first | exact Or.inl rfl | exact Or.inr rfl) ?_
          simp [go_sem, ty3, ty28, ty33, fw33, q5]
          first | refine h10 _ ?_ | refine ⟨by omega, h10 _ ?_⟩ | refine ⟨by omega, by omega, h10 _ ?_⟩ | (repeat (refine ⟨by first | omega | grind, ?_⟩)); refine h10 _ ?_
          clear h10 K10
          refine W_ret ?_
          simp [go_sem, q]
    · have q5 : ¬ 5 ≤ xs.length := by simp at hb9; omega
      have q := cacheAdd_room qb q5
      clear hb9
      refine W_skip ?_
      first | refine h7 _ ?_ | refine ⟨by omega, h7 _ ?_⟩ | refine ⟨by omega, by omega, h7 _ ?_⟩ | (repeat (refine ⟨by first | omega | grind, ?_⟩)); refine h7 _ ?_
      clear h7 K7
      refine W_seqK fun K11 h11 => ?_
      refine W_drawS true (.op 0 (.op 1 (.op 3 (.fork 2 (.op 4 (.op 5 (.op 6 (.op 7 (.op 8 (.op 9 .nil)))))) 4 (.fork 2 (.op 5 (.op 6 (.op 7 (.op 8 (.op 9 .nil))))) 5 (.op 2 (.op 6 (.op 7 (.op 8 (.op 9 .nil)))))))))) mixed (by decide +kernel) rfl ?_
      simp [go_sem, ty28, ty33, q5]
      refine ⟨?_, ?_⟩
      · try simp [go_sem, ty3, ty31, ty123, q5]
        refine callG_pc (fun hG => pc_slices_Clone_impl_Ins_impl_Ins b.list (by first | assumption | omega)) (by first | (simp; done) | (simp [inR_iff]; done) | (simp [inR_iff]; grind) | grind) (fun hG => by simp [go_sem, q5]) rfl rfl (by first | exact Or.inl rfl | exact Or.inr rfl) ?_
        simp [go_sem, ty28, ty33, fw33, q5]
        first | refine h11 _ ?_ | refine ⟨by omega, h11 _ ?_⟩ | refine ⟨by omega, by omega, h11 _ ?_⟩ | (repeat (refine ⟨by first | omega | grind, ?_⟩)); refine h11 _ ?_
        clear h11 K11
        refine W_ret ?_
        simp [go_sem, q]
      · try simp [go_sem, ty31, ty123, fw33, q5]
        refine ⟨?_, ?_⟩
        · try simp [go_sem, ty3, ty31, ty123, fw33, q5]
          refine callG_pc (fun hG => pc_slices_Clone_impl_Ins_impl_Ins b.list (by first | assumption | omega)) (by first | (simp; done) | (simp [inR_iff]; done) | (simp [inR_iff]; grind) | grind) (fun hG => by simp [go_sem, q5]) rfl rfl (by first | exact Or.inl rfl | exact Or.inr rfl) ?_
          simp [go_sem, ty28, ty33, fw33, q5]
          first | refine h11 _ ?_ | refine ⟨by omega, h11 _ ?_⟩ | refine ⟨by omega, by omega, h11 _ ?_⟩ | (repeat (refine ⟨by first | omega | grind, ?_⟩)); refine h11 _ ?_
          clear h11 K11
          refine W_ret ?_
          simp [go_sem, q]
        · try simp [go_sem, ty31, ty123, fw33, q5]
          refine callG_pc (fun hG => pc_slices_Clone_impl_Ins_impl_Ins b.list (by first | assumption | omega)) (by first | (simp; done) | (simp [inR_iff]; done) | (simp [inR_iff]; grind) | grind) (fun hG => by simp [go_sem, q5]) rfl rfl (by first | exact Or.inl rfl | exact Or.inr rfl) ?_
          simp [go_sem, ty3, ty28, ty33, fw33, q5]
          first | refine h11 _ ?_ | refine ⟨by omega, h11 _ ?_⟩ | refine ⟨by omega, by omega, h11 _ ?_⟩ | (repeat (refine ⟨by first | omega | grind, ?_⟩)); refine h11 _ ?_
          clear h11 K11
          refine W_ret ?_
          simp [go_sem, q]

set_option maxRecDepth 100000 in
set_option maxHeartbeats 4000000 in
theorem pc_spec_CacheAdd (xs : List GBlock) (b : GBlock) (hx : xs.length ≤ 1048576) (hq : ∀ a ∈ xs, a.small) (hb : b.small) : PC Try.prog 13 [(false, [.sl 2 (enc eBlock xs)]), (true, eBlock b)] [(false, [.sl 2 (enc eBlock (cacheAdd xs b))])] := by
  have hb1 := hb
  unfold GBlock.small at hb1
  refine PC_of (n := 24) Try.func13 rfl rfl rfl rfl (by simp) ?_
  refine W_seqK fun K1 h1 => ?_
  refine W_reg ?_
  simp [go_sem, ty28, ty33]
  first | refine h1 _ ?_ | refine ⟨by omega, h1 _ ?_⟩ | refine ⟨by omega, by omega, h1 _ ?_⟩ | (repeat (refine ⟨by first | omega | grind, ?_⟩)); refine h1 _ ?_
  clear h1 K1
  refine W_seqK fun K2 h2 => ?_
  refine W_reg ?_
  simp [go_sem, ty28, ty33]
  refine callG_pc (fun hG => pc_spec_l11Copy xs (by first | assumption | omega) (by first | assumption | omega)) (by first | (simp; done) | (simp [inR_iff]; done) | (simp [inR_iff]; grind) | grind) (fun hG => by simp [go_sem]) rfl rfl (by first | exact Or.inl rfl | exact Or.inr rfl) ?_
  simp [go_sem, ty28, ty33]
  first | refine h2 _ ?_ | refine ⟨by omega, h2 _ ?_⟩ | refine ⟨by omega, by omega, h2 _ ?_⟩ | (repeat (refine ⟨by first | omega | grind, ?_⟩)); refine h2 _ ?_
  clear h2 K2
  refine W_seqK fun K3 h3 => ?_
  refine W_seqK fun K4 h4 => ?_
  refine W_reg ?_
  simp [go_sem, ty4, ty33]
  refine callG_pc (fun hG => pc_spec_BlockOk b (by first | assumption | omega)) (by first | (simp; done) | (simp [inR_iff]; done) | (simp [inR_iff]; grind) | grind) (fun hG => by simp [go_sem]) rfl rfl (by first | exact Or.inl rfl | exact Or.inr rfl) ?_
  simp [go_sem, ty4]
  first | refine h4 _ ?_ | refine ⟨by omega, h4 _ ?_⟩ | refine ⟨by omega, by omega, h4 _ ?_⟩ | (repeat (refine ⟨by first | omega | grind, ?_⟩)); refine h4 _ ?_
  clear h4 K4
  refine W_cond rfl (fun hb5 => ?_) fun hb5 => ?_
  · have q : cacheAdd xs b = xs := cacheAdd_no (by simpa using hb5)
    clear hb5
    refine W_seqK fun K6 h6 => ?_
    refine W_reg ?_
    simp [go_sem, ty28, ty33]
    first | refine h6 _ ?_ | refine ⟨by omega, h6 _ ?_⟩ | refine ⟨by omega, by omega, h6 _ ?_⟩ | (repeat (refine ⟨by first | omega | grind, ?_⟩)); refine h6 _ ?_
    clear h6 K6
    refine W_ret ?_
    simp [go_sem, q]
  · have qb : blockOk b = true := by simpa using hb5
    clear hb5
    refine W_skip ?_
    first | refine h3 _ ?_ | refine ⟨by omega, h3 _ ?_⟩ | refine ⟨by omega, by omega, h3 _ ?_⟩ | (repeat (refine ⟨by first | omega | grind, ?_⟩)); refine h3 _ ?_
    clear h3 K3
    refine W_seqK fun K7 h7 => ?_
    refine W_seqK fun K8 h8 => ?_
    refine W_reg ?_
    simp [go_sem, ty3, ty4, ty28, ty33]
    first | refine h8 _ ?_ | refine ⟨by omega, h8 _ ?_⟩ | refine ⟨by omega, by omega, h8 _ ?_⟩ | (repeat (refine ⟨by first | omega | grind, ?_⟩)); refine h8 _ ?_
    clear h8 K8
    refine W_cond rfl (fun hb9 => ?_) fun hb9 => ?_
    · have q5 : 5 ≤ xs.length := by simp at hb9; omega
      have q := cacheAdd_full qb q5
      clear hb9
      refine W_reg ?_
      simp [go_sem, ty28, ty33, q5]
      first | refine h7 _ ?_ | refine ⟨by omega, h7 _ ?_⟩ | refine ⟨by omega, by omega, h7 _ ?_⟩ | (repeat (refine ⟨by first | omega | grind, ?_⟩)); refine h7 _ ?_
      clear h7 K7
      refine W_seqK fun K10 h10 => ?_
      refine W_reg ?_
      simp [go_sem, ty28, ty33, q5]
      refine callG_pc (fun hG => pc_spec_l10Copy b (by first | assumption | omega)) (by first | (simp; done) | (simp [inR_iff]; done) | (simp [inR_iff]; grind) | grind) (fun hG => by simp [go_sem, q5]) rfl rfl (by first | exact Or.inl rfl | exact Or.inr rfl) ?_
      simp [go_sem, ty28, ty33, q5]
      first | refine h10 _ ?_ | refine ⟨by omega, h10 _ ?_⟩ | refine ⟨by omega, by omega, h10 _ ?_⟩ | (repeat (refine ⟨by first | omega | grind, ?_⟩)); refine h10 _ ?_
      clear h10 K10
      refine W_ret ?_
      simp [go_sem, q]
    · have q5 : ¬ 5 ≤ xs.length := by simp at hb9; omega
      have q := cacheAdd_room qb q5
      clear hb9
      refine W_skip ?_
      first | refine h7 _ ?_ | refine ⟨by omega, h7 _ ?_⟩ | refine ⟨by omega, by omega, h7 _ ?_⟩ | (repeat (refine ⟨by first | omega | grind, ?_⟩)); refine h7 _ ?_
      clear h7 K7
      refine W_seqK fun K11 h11 => ?_
      refine W_reg ?_
      simp [go_sem, ty28, ty33, q5]
      refine callG_pc (fun hG => pc_spec_l10Copy b (by first | assumption | omega)) (by first | (simp; done) | (simp [inR_iff]; done) | (simp [inR_iff]; grind) | grind) (fun hG => by simp [go_sem, q5]) rfl rfl (by first | exact Or.inl rfl | exact Or.inr rfl) ?_
      simp [go_sem, ty28, ty33, q5]
      first | refine h11 _ ?_ | refine ⟨by omega, h11 _ ?_⟩ | refine ⟨by omega, by omega, h11 _ ?_⟩ | (repeat (refine ⟨by first | omega | grind, ?_⟩)); refine h11 _ ?_
      clear h11 K11
      refine W_ret ?_
      simp [go_sem, q]
end Go.Tw
