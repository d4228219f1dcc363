/- Walks of functions: laws.heldWorld, laws.heldFlock -/
import Derived.Test.YtgcjdkgddnnlpaaE7md
set_option linter.unusedSimpArgs false
set_option linter.unusedVariables false
set_option linter.unnecessarySimpa false
namespace Go.Tw
open Go.Proofs

set_option maxRecDepth 100000 in
set_option maxHeartbeats 4000000 in
theorem pc_laws_heldWorld (x : GWorld) (k : Int) (hq : x.small) (hp : ∀ m, m ≤ nvWorld x → 0 ≤ markE k m) : PC Try.prog 69 [(true, eWorld (mvWorld k x)), (false, [.int .i64 k])] [(false, [.int .i64 (markE k (nvWorld x))])] := by
  have hq1 := hq
  unfold GWorld.small at hq1
  obtain ⟨q0, q1, q2, q3⟩ := hq1
  simp only [nvWorld] at hp
  refine PC_of (n := 18) Try.func69 rfl rfl rfl rfl (by simp) ?_
  refine W_seqK fun K1 h1 => ?_
  refine W_reg ?_
  simp [go_sem, ty3, ty26, mvWorld, nvWorld, markE_add]
  repeat refine ⟨by first | omega | grind, ?_⟩
  refine h1 _ ?_
  clear h1 K1
  refine W_seqK fun K2 h2 => ?_
  refine W_reg ?_
  simp [go_sem, ty3, ty23, ty26, ty103, mvWorld, nvWorld, markE_add]
  refine callG_pc (fun hG => pc_laws_heldNodeS x.nodes k (by first | assumption | omega | (unfold GWorld.small at hq; exact hq.1)) (by first | assumption | omega | (unfold GWorld.small at hq; exact hq.1)) (fun m hm => by (try simp only [nvMsg, nvSender, nvPacket, nvFrame, nvHome, nvNode, nvWorld, nvHart, nvBlock, nvCore, nvFlock] at hm); first | exact hp m (by omega) | (rw [markE_add]; exact hp _ (by omega)) | exact markE_nn m (by omega) | (rw [markE_add]; exact markE_nn _ (by omega)))) (by first | (simp; done) | (simp [inR_iff]; done) | (simp [inR_iff]; grind) | grind) (fun hG => by simp [go_sem, mvWorld, nvWorld, markE_add]) rfl rfl (by first | exact Or.inl rfl | exact Or.inr rfl) ?_
  simp [go_sem, ty3, mvWorld, nvWorld, markE_add]
  repeat refine ⟨by first | omega | grind, ?_⟩
  refine h2 _ ?_
  clear h2 K2
  refine W_seqK fun K3 h3 => ?_
  refine W_seqK fun K4 h4 => ?_
  refine W_reg ?_
  simp [go_sem, ty3, ty4, mvWorld, nvWorld, markE_add]
  repeat refine ⟨by first | omega | grind, ?_⟩
  refine h4 _ ?_
  clear h4 K4
  refine W_cond rfl (fun hb5 => by first | (simp at hb5; done) | (simp at hb5; omega) | (simp at hb5; exact absurd hb5 (Int.not_lt.2 (hp _ (by omega))))) fun hb5 => ?_
  clear hb5
  refine W_skip ?_
  repeat refine ⟨by first | omega | grind, ?_⟩
  refine h3 _ ?_
  clear h3 K3
  refine W_seqK fun K6 h6 => ?_
  refine W_reg ?_
  simp [go_sem, ty3, ty24, ty26, ty191, mvWorld, nvWorld, markE_add]
  refine callG_pc (fun hG => pc_laws_heldPacketS x.net (markE k ((x.nodes.map nNode).sum)) (by first | assumption | omega | (unfold GWorld.small at hq; exact hq.1)) (by first | assumption | omega | (unfold GWorld.small at hq; exact hq.1)) (fun m hm => by (try simp only [nvMsg, nvSender, nvPacket, nvFrame, nvHome, nvNode, nvWorld, nvHart, nvBlock, nvCore, nvFlock] at hm); first | exact hp m (by omega) | (rw [markE_add]; exact hp _ (by omega)) | exact markE_nn m (by omega) | (rw [markE_add]; exact markE_nn _ (by omega)))) (by first | (simp; done) | (simp [inR_iff]; done) | (simp [inR_iff]; grind) | grind) (fun hG => by simp [go_sem, mvWorld, nvWorld, markE_add]) rfl rfl (by first | exact Or.inl rfl | exact Or.inr rfl) ?_
  simp [go_sem, ty3, mvWorld, nvWorld, markE_add]
  repeat refine ⟨by first | omega | grind, ?_⟩
  refine h6 _ ?_
  clear h6 K6
  refine W_seqK fun K7 h7 => ?_
  refine W_seqK fun K8 h8 => ?_
  refine W_reg ?_
  simp [go_sem, ty3, ty4, mvWorld, nvWorld, markE_add]
  repeat refine ⟨by first | omega | grind, ?_⟩
  refine h8 _ ?_
  clear h8 K8
  refine W_cond rfl (fun hb9 => by first | (simp at hb9; done) | (simp at hb9; omega) | (simp at hb9; exact absurd hb9 (Int.not_lt.2 (hp _ (by omega))))) fun hb9 => ?_
  clear hb9
  refine W_skip ?_
  repeat refine ⟨by first | omega | grind, ?_⟩
  refine h7 _ ?_
  clear h7 K7
  refine W_seqK fun K10 h10 => ?_
  refine W_reg ?_
  simp [go_sem, ty3, mvWorld, nvWorld, markE_add]
  repeat refine ⟨by first | omega | grind, ?_⟩
  refine h10 _ ?_
  clear h10 K10
  refine W_ret ?_
  simp [go_sem, nvWorld]

set_option maxRecDepth 100000 in
set_option maxHeartbeats 4000000 in
theorem pc_laws_heldFlock (x : GFlock) (k : Int) (hq : x.small) (hp : ∀ m, m ≤ nvFlock x → 0 ≤ markE k m) : PC Try.prog 17 [(true, eFlock (mvFlock k x)), (false, [.int .i64 k])] [(false, [.int .i64 (markE k (nvFlock x))])] := by
  have hq1 := hq
  unfold GFlock.small GWorld.small at hq1
  try simp only [and_assoc] at hq1
  obtain ⟨q0, q1, q2, q3, q4, q5⟩ := hq1
  simp only [nvFlock, nvWorld] at hp
  refine PC_of (n := 18) Try.func17 rfl rfl rfl rfl (by simp) ?_
  refine W_seqK fun K1 h1 => ?_
  refine W_reg ?_
  simp [go_sem, ty3, ty29, mvFlock, nvFlock, mvWorld, nvWorld, markE_add]
  repeat refine ⟨by first | omega | grind, ?_⟩
  refine h1 _ ?_
  clear h1 K1
  refine W_seqK fun K2 h2 => ?_
  refine W_reg ?_
  simp [go_sem, ty3, ty26, ty29, mvFlock, nvFlock, mvWorld, nvWorld, markE_add]
  refine callG_pc (fun hG => pc_laws_heldWorld x.world k (by first | assumption | omega | (unfold GFlock.small at hq; exact hq.1)) (fun m hm => by (try simp only [nvMsg, nvSender, nvPacket, nvFrame, nvHome, nvNode, nvWorld, nvHart, nvBlock, nvCore, nvFlock] at hm); first | exact hp m (by omega) | (rw [markE_add]; exact hp _ (by omega)) | exact markE_nn m (by omega) | (rw [markE_add]; exact markE_nn _ (by omega)))) (by first | (simp; done) | (simp [inR_iff]; done) | (simp [inR_iff]; grind) | grind) (fun hG => by simp [go_sem, mvFlock, nvFlock, mvWorld, nvWorld, markE_add]) rfl rfl (by first | exact Or.inl rfl | exact Or.inr rfl) ?_
  simp [go_sem, ty3, mvFlock, nvFlock, mvWorld, nvWorld, markE_add]
  repeat refine ⟨by first | omega | grind, ?_⟩
  refine h2 _ ?_
  clear h2 K2
  refine W_seqK fun K3 h3 => ?_
  refine W_seqK fun K4 h4 => ?_
  refine W_reg ?_
  simp [go_sem, ty3, ty4, mvFlock, nvFlock, mvWorld, nvWorld, markE_add]
  repeat refine ⟨by first | omega | grind, ?_⟩
  refine h4 _ ?_
  clear h4 K4
  refine W_cond rfl (fun hb5 => by first | (simp at hb5; done) | (simp at hb5; omega) | (simp at hb5; exact absurd hb5 (Int.not_lt.2 (hp _ (by omega))))) fun hb5 => ?_
  clear hb5
  refine W_skip ?_
  repeat refine ⟨by first | omega | grind, ?_⟩
  refine h3 _ ?_
  clear h3 K3
  refine W_seqK fun K6 h6 => ?_
  refine W_reg ?_
  simp [go_sem, ty3, ty27, ty29, ty107, mvFlock, nvFlock, mvWorld, nvWorld, markE_add]
  refine callG_pc (fun hG => pc_laws_heldCoreS x.cores (markE k ((x.world.nodes.map nNode).sum + (x.world.net.map nPacket).sum)) (by first | assumption | omega | (unfold GFlock.small at hq; exact hq.1)) (by first | assumption | omega | (unfold GFlock.small at hq; exact hq.1)) (fun m hm => by (try simp only [nvMsg, nvSender, nvPacket, nvFrame, nvHome, nvNode, nvWorld, nvHart, nvBlock, nvCore, nvFlock] at hm); first | exact hp m (by omega) | (rw [markE_add]; exact hp _ (by omega)) | exact markE_nn m (by omega) | (rw [markE_add]; exact markE_nn _ (by omega)))) (by first | (simp; done) | (simp [inR_iff]; done) | (simp [inR_iff]; grind) | grind) (fun hG => by simp [go_sem, mvFlock, nvFlock, mvWorld, nvWorld, markE_add]) rfl rfl (by first | exact Or.inl rfl | exact Or.inr rfl) ?_
  simp [go_sem, ty3, mvFlock, nvFlock, mvWorld, nvWorld, markE_add]
  repeat refine ⟨by first | omega | grind, ?_⟩
  refine h6 _ ?_
  clear h6 K6
  refine W_seqK fun K7 h7 => ?_
  refine W_seqK fun K8 h8 => ?_
  refine W_reg ?_
  simp [go_sem, ty3, ty4, mvFlock, nvFlock, mvWorld, nvWorld, markE_add]
  repeat refine ⟨by first | omega | grind, ?_⟩
  refine h8 _ ?_
  clear h8 K8
  refine W_cond rfl (fun hb9 => by first | (simp at hb9; done) | (simp at hb9; omega) | (simp at hb9; exact absurd hb9 (Int.not_lt.2 (hp _ (by omega))))) fun hb9 => ?_
  clear hb9
  refine W_skip ?_
  repeat refine ⟨by first | omega | grind, ?_⟩
  refine h7 _ ?_
  clear h7 K7
  refine W_seqK fun K10 h10 => ?_
  refine W_reg ?_
  simp [go_sem, ty3, mvFlock, nvFlock, mvWorld, nvWorld, markE_add]
  repeat refine ⟨by first | omega | grind, ?_⟩
  refine h10 _ ?_
  clear h10 K10
  refine W_ret ?_
  simp [go_sem, nvFlock, nvWorld]
end Go.Tw
