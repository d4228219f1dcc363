/- Walks of functions: spec.l7Truth, impl.truth, spec.Truth, impl.Truth, spec.Memory, impl.Memory -/
import Derived.Test.YtafocmjoejchbaaGreatZv
set_option linter.unusedSimpArgs false
set_option linter.unusedVariables false
set_option linter.unnecessarySimpa false
namespace Go.Tw
open Go.Proofs

set_option maxRecDepth 100000 in
set_option maxHeartbeats 4000000 in
theorem pc_spec_l7Truth (w : GWorld) (p : Nat) (hw : worldOk w = true) (hs : w.small) (hp : p < 6) : PC Tryz.prog 102 [(true, eWorld w), (false, [.int .i64 (p : Int)])] [(false, [.sl 1 (enc eI (truthOf w p))])] := by
  have hs1 := hs
  unfold GWorld.small at hs1
  obtain ⟨n, d, e1, e2, e3, e4, e5, e6, e7, hd1, hh1, hk⟩ := truth_places hw hp
  obtain ⟨x, hx⟩ : ∃ x, w.nodes[d] = x := ⟨_, rfl⟩
  have hh2 : p < x.homes.length := by rw [← hx]; exact hh1
  obtain ⟨h, hhe⟩ : ∃ h, x.homes[p] = h := ⟨_, rfl⟩
  have hk2 : homeOk h w.size = true := by rw [← hhe]; simp only [← hx]; exact hk
  obtain ⟨-, k1, k2, -⟩ := homeOk_facts hk2
  have hx0 : w.nodes[d]? = some x := by simp [hd1, hx]
  have hh0 : x.homes[p]? = some h := by simp [hh2, hhe]
  have hrem : ((p : Int)).tmod w.size = (d : Int) := by rw [e1, tmod_pos (by omega), e6]; omega
  refine PC_of (n := 64) Tryz.func102 rfl rfl rfl rfl (by simp) ?_
  refine W_seqK fun K1 h1 => ?_
  refine W_reg ?_
  simp [go_sem, ty3, ty22, ty61, hd1, hx, hh2, hhe, hrem]
  first | refine h1 _ ?_ | refine ⟨by omega, h1 _ ?_⟩ | refine ⟨by omega, by omega, h1 _ ?_⟩ | (repeat (refine ⟨by first | omega | grind, ?_⟩)); refine h1 _ ?_
  clear h1 K1
  refine W_seqK fun K2 h2 => ?_
  refine W_reg ?_
  simp [go_sem, ty3, ty61, hd1, hx, hh2, hhe, hrem]
  first | refine h2 _ ?_ | refine ⟨by omega, h2 _ ?_⟩ | refine ⟨by omega, by omega, h2 _ ?_⟩ | (repeat (refine ⟨by first | omega | grind, ?_⟩)); refine h2 _ ?_
  clear h2 K2
  refine W_seqK fun K3 h3 => ?_
  refine W_reg ?_
  simp [go_sem, ty3, ty43, ty47, ty58, ty61, ty123, hd1, hx, hh2, hhe, hrem]
  first | refine h3 _ ?_ | refine ⟨by omega, h3 _ ?_⟩ | refine ⟨by omega, by omega, h3 _ ?_⟩ | (repeat (refine ⟨by first | omega | grind, ?_⟩)); refine h3 _ ?_
  clear h3 K3
  refine W_seqK fun K4 h4 => ?_
  refine W_seqK fun K5 h5 => ?_
  refine W_reg ?_
  simp [go_sem, ty3, ty4, ty123, hd1, hx, hh2, hhe, hrem]
  first | refine h5 _ ?_ | refine ⟨by omega, h5 _ ?_⟩ | refine ⟨by omega, by omega, h5 _ ?_⟩ | (repeat (refine ⟨by first | omega | grind, ?_⟩)); refine h5 _ ?_
  clear h5 K5
  refine W_cond rfl (fun hb6 => ?_) fun hb6 => ?_
  · have hon : h.owner < 0 := by simpa using hb6
    have q := truthOf_home e5 hx0 hh0 hon
    clear hb6
    refine W_seqK fun K7 h7 => ?_
    refine W_reg ?_
    simp [go_sem, ty3, ty22, ty123, hd1, hx, hh2, hhe, hrem]
    first | refine h7 _ ?_ | refine ⟨by omega, h7 _ ?_⟩ | refine ⟨by omega, by omega, h7 _ ?_⟩ | (repeat (refine ⟨by first | omega | grind, ?_⟩)); refine h7 _ ?_
    clear h7 K7
    refine W_ret ?_
    simp [go_sem, q]
  · have hon : ¬ h.owner < 0 := by simpa using hb6
    clear hb6
    obtain ⟨o, hoo⟩ : ∃ o : Nat, h.owner = (o : Int) := ⟨h.owner.toNat, by omega⟩
    have hol : o < w.nodes.length := by omega
    obtain ⟨y, hy⟩ : ∃ y, w.nodes[o] = y := ⟨_, rfl⟩
    have hyk := (world_node hw hol).1
    rw [hy] at hyk
    obtain ⟨yf, -, -, -, yfk, -, -, -⟩ := nodeOk_facts hyk
    have hf1 : p < y.frames.length := by omega
    obtain ⟨f, hfe⟩ : ∃ f, y.frames[p] = f := ⟨_, rfl⟩
    have hfk := yfk p hf1
    rw [hfe] at hfk
    have hy0 : w.nodes[o]? = some y := by simp [hol, hy]
    have hf0 : y.frames[p]? = some f := by simp [hf1, hfe]
    have hc1 := comingOf_ok hw hd1 hol
    have hc2 := comingOf_ok hw hol hd1
    have hcl1 := comingOf_len hw hd1 hol
    have hcl2 := comingOf_len hw hol hd1
    refine W_skip ?_
    first | refine h4 _ ?_ | refine ⟨by omega, h4 _ ?_⟩ | refine ⟨by omega, by omega, h4 _ ?_⟩ | (repeat (refine ⟨by first | omega | grind, ?_⟩)); refine h4 _ ?_
    clear h4 K4
    refine W_seqK fun K8 h8 => ?_
    refine W_reg ?_
    simp [go_sem, ty3, ty42, ty47, ty58, ty61, ty118, ty123, hd1, hx, hh2, hhe, hrem, hoo, hol, hy, hf1, hfe]
    first | refine h8 _ ?_ | refine ⟨by omega, h8 _ ?_⟩ | refine ⟨by omega, by omega, h8 _ ?_⟩ | (repeat (refine ⟨by first | omega | grind, ?_⟩)); refine h8 _ ?_
    clear h8 K8
    refine W_seqK fun K9 h9 => ?_
    refine W_seqK fun K10 h10 => ?_
    refine W_reg ?_
    simp [go_sem, ty3, ty4, ty118, hd1, hx, hh2, hhe, hrem, hoo, hol, hy, hf1, hfe]
    first | refine h10 _ ?_ | refine ⟨by omega, h10 _ ?_⟩ | refine ⟨by omega, by omega, h10 _ ?_⟩ | (repeat (refine ⟨by first | omega | grind, ?_⟩)); refine h10 _ ?_
    clear h10 K10
    refine W_cond rfl (fun hb11 => ?_) fun hb11 => ?_
    · have hst : f.state = 2 := by simpa using hb11
      have q := truthOf_frame e5 hx0 hh0 hoo hy0 hf0 hst
      have hfl := frameOk_two hfk hst
      clear hb11
      refine W_seqK fun K12 h12 => ?_
      refine W_reg ?_
      simp [go_sem, ty3, ty22, ty118, hd1, hx, hh2, hhe, hrem, hoo, hol, hy, hf1, hfe]
      first | refine h12 _ ?_ | refine ⟨by omega, h12 _ ?_⟩ | refine ⟨by omega, by omega, h12 _ ?_⟩ | (repeat (refine ⟨by first | omega | grind, ?_⟩)); refine h12 _ ?_
      clear h12 K12
      refine W_ret ?_
      simp [go_sem, q]
    · have hst : ¬ f.state = 2 := by simpa using hb11
      clear hb11
      refine W_skip ?_
      first | refine h9 _ ?_ | refine ⟨by omega, h9 _ ?_⟩ | refine ⟨by omega, by omega, h9 _ ?_⟩ | (repeat (refine ⟨by first | omega | grind, ?_⟩)); refine h9 _ ?_
      clear h9 K9
      refine W_seqK fun K13 h13 => ?_
      refine W_reg ?_
      simp [go_sem, ty3, ty61, ty123, ty125, ty165, hd1, hx, hh2, hhe, hrem, hoo, hol, hy, hf1, hfe]
      refine callG_pc (fun hG => pc_spec_l7Coming w d o hw hs hd1 hol) (by first | (simp; done) | (simp [inR_iff]; done) | (simp [inR_iff]; grind) | grind) (fun hG => by simp [go_sem, hd1, hx, hh2, hhe, hrem, hoo, hol, hy, hf1, hfe]) rfl rfl (by first | exact Or.inl rfl | exact Or.inr rfl) ?_
      simp [go_sem, ty3, ty22, ty125, ty165, hd1, hx, hh2, hhe, hrem, hoo, hol, hy, hf1, hfe]
      refine callG_pc (fun hG => pc_spec_l7Last (comingOf w d o) 3 (p : Int) (by omega) (fun m hm => by have h9 := msgOk_len (hc1 m hm); omega)) (by first | (simp; done) | (simp [inR_iff]; done) | (simp [inR_iff]; grind) | grind) (fun hG => by simp [go_sem, hd1, hx, hh2, hhe, hrem, hoo, hol, hy, hf1, hfe]) rfl rfl (by first | exact Or.inl rfl | exact Or.inr rfl) ?_
      simp [go_sem, ty3, ty22, hd1, hx, hh2, hhe, hrem, hoo, hol, hy, hf1, hfe]
      first | refine h13 _ ?_ | refine ⟨by omega, h13 _ ?_⟩ | refine ⟨by omega, by omega, h13 _ ?_⟩ | (repeat (refine ⟨by first | omega | grind, ?_⟩)); refine h13 _ ?_
      clear h13 K13
      refine W_seqK fun K14 h14 => ?_
      refine W_seqK fun K15 h15 => ?_
      refine W_reg ?_
      simp [go_sem, ty3, ty4, ty22, hd1, hx, hh2, hhe, hrem, hoo, hol, hy, hf1, hfe]
      first | refine h15 _ ?_ | refine ⟨by omega, h15 _ ?_⟩ | refine ⟨by omega, by omega, h15 _ ?_⟩ | (repeat (refine ⟨by first | omega | grind, ?_⟩)); refine h15 _ ?_
      clear h15 K15
      refine W_cond rfl (fun hb16 => ?_) fun hb16 => ?_
      · have hpo : 0 < (lastL (lastP 3 p) (comingOf w d o)).length := by simpa using hb16
        have q := truthOf_data e5 hx0 hh0 hoo hy0 hf0 hst hpo
        clear hb16
        refine W_seqK fun K17 h17 => ?_
        refine W_reg ?_
        simp [go_sem, ty3, ty22, hd1, hx, hh2, hhe, hrem, hoo, hol, hy, hf1, hfe]
        first | refine h17 _ ?_ | refine ⟨by omega, h17 _ ?_⟩ | refine ⟨by omega, by omega, h17 _ ?_⟩ | (repeat (refine ⟨by first | omega | grind, ?_⟩)); refine h17 _ ?_
        clear h17 K17
        refine W_ret ?_
        simp [go_sem, q]
      · have hpo : ¬ 0 < (lastL (lastP 3 p) (comingOf w d o)).length := by simpa using hb16
        have q := truthOf_back e5 hx0 hh0 hoo hy0 hf0 hst hpo
        clear hb16
        refine W_skip ?_
        first | refine h14 _ ?_ | refine ⟨by omega, h14 _ ?_⟩ | refine ⟨by omega, by omega, h14 _ ?_⟩ | (repeat (refine ⟨by first | omega | grind, ?_⟩)); refine h14 _ ?_
        clear h14 K14
        refine W_seqK fun K18 h18 => ?_
        refine W_reg ?_
        simp [go_sem, ty3, ty61, ty123, ty125, ty165, hd1, hx, hh2, hhe, hrem, hoo, hol, hy, hf1, hfe]
        refine callG_pc (fun hG => pc_spec_l7Coming w o d hw hs hol hd1) (by first | (simp; done) | (simp [inR_iff]; done) | (simp [inR_iff]; grind) | grind) (fun hG => by simp [go_sem, hd1, hx, hh2, hhe, hrem, hoo, hol, hy, hf1, hfe]) rfl rfl (by first | exact Or.inl rfl | exact Or.inr rfl) ?_
        simp [go_sem, ty3, ty22, ty125, ty165, hd1, hx, hh2, hhe, hrem, hoo, hol, hy, hf1, hfe]
        refine callG_pc (fun hG => pc_spec_l7Last (comingOf w o d) 7 (p : Int) (by omega) (fun m hm => by have h9 := msgOk_len (hc2 m hm); omega)) (by first | (simp; done) | (simp [inR_iff]; done) | (simp [inR_iff]; grind) | grind) (fun hG => by simp [go_sem, hd1, hx, hh2, hhe, hrem, hoo, hol, hy, hf1, hfe]) rfl rfl (by first | exact Or.inl rfl | exact Or.inr rfl) ?_
        simp [go_sem, ty3, ty22, hd1, hx, hh2, hhe, hrem, hoo, hol, hy, hf1, hfe]
        first | refine h18 _ ?_ | refine ⟨by omega, h18 _ ?_⟩ | refine ⟨by omega, by omega, h18 _ ?_⟩ | (repeat (refine ⟨by first | omega | grind, ?_⟩)); refine h18 _ ?_
        clear h18 K18
        refine W_ret ?_
        simp [go_sem, q]

set_option maxRecDepth 100000 in
set_option maxHeartbeats 4000000 in
theorem pc_impl_truth (w : GWorld) (p : Nat) (hw : worldOk w = true) (hs : w.small) (hp : p < 6) : PC Tryz.prog 106 [(true, eWorld w), (false, [.int .i64 (p : Int)])] [(false, [.sl 1 (enc eI (truthOf w p))])] := by
  have hs1 := hs
  unfold GWorld.small at hs1
  obtain ⟨n, d, e1, e2, e3, e4, e5, e6, e7, hd1, hh1, hk⟩ := truth_places hw hp
  obtain ⟨x, hx⟩ : ∃ x, w.nodes[d] = x := ⟨_, rfl⟩
  have hh2 : p < x.homes.length := by rw [← hx]; exact hh1
  obtain ⟨h, hhe⟩ : ∃ h, x.homes[p] = h := ⟨_, rfl⟩
  have hk2 : homeOk h w.size = true := by rw [← hhe]; simp only [← hx]; exact hk
  obtain ⟨-, k1, k2, -⟩ := homeOk_facts hk2
  have hx0 : w.nodes[d]? = some x := by simp [hd1, hx]
  have hh0 : x.homes[p]? = some h := by simp [hh2, hhe]
  have hrem : ((p : Int)).tmod w.size = (d : Int) := by rw [e1, tmod_pos (by omega), e6]; omega
  refine PC_of (n := 103) Tryz.func106 rfl rfl rfl rfl (by simp) ?_
  refine W_seqK fun K1 h1 => ?_
  refine W_reg ?_
  simp [go_sem, ty3, ty22, ty61, hd1, hx, hh2, hhe, hrem]
  first | refine h1 _ ?_ | refine ⟨by omega, h1 _ ?_⟩ | refine ⟨by omega, by omega, h1 _ ?_⟩ | (repeat (refine ⟨by first | omega | grind, ?_⟩)); refine h1 _ ?_
  clear h1 K1
  refine W_seqK fun K2 h2 => ?_
  refine W_reg ?_
  simp [go_sem, ty3, ty61, hd1, hx, hh2, hhe, hrem]
  first | refine h2 _ ?_ | refine ⟨by omega, h2 _ ?_⟩ | refine ⟨by omega, by omega, h2 _ ?_⟩ | (repeat (refine ⟨by first | omega | grind, ?_⟩)); refine h2 _ ?_
  clear h2 K2
  refine W_seqK fun K3 h3 => ?_
  refine W_reg ?_
  simp [go_sem, ty3, ty43, ty47, ty58, ty61, ty123, hd1, hx, hh2, hhe, hrem]
  first | refine h3 _ ?_ | refine ⟨by omega, h3 _ ?_⟩ | refine ⟨by omega, by omega, h3 _ ?_⟩ | (repeat (refine ⟨by first | omega | grind, ?_⟩)); refine h3 _ ?_
  clear h3 K3
  refine W_seqK fun K4 h4 => ?_
  refine W_seqK fun K5 h5 => ?_
  refine W_reg ?_
  simp [go_sem, ty3, ty4, ty123, hd1, hx, hh2, hhe, hrem]
  first | refine h5 _ ?_ | refine ⟨by omega, h5 _ ?_⟩ | refine ⟨by omega, by omega, h5 _ ?_⟩ | (repeat (refine ⟨by first | omega | grind, ?_⟩)); refine h5 _ ?_
  clear h5 K5
  refine W_cond rfl (fun hb6 => ?_) fun hb6 => ?_
  · have hon : h.owner < 0 := by simpa using hb6
    have q := truthOf_home e5 hx0 hh0 hon
    clear hb6
    refine W_seqK fun K7 h7 => ?_
    refine W_reg ?_
    simp [go_sem, ty3, ty22, ty123, hd1, hx, hh2, hhe, hrem]
    refine callG_pc (fun hG => pc_slices_Clone_int_int h.list (by omega)) (by first | (simp; done) | (simp [inR_iff]; done) | (simp [inR_iff]; grind) | grind) (fun hG => by simp [go_sem, hd1, hx, hh2, hhe, hrem]) rfl rfl (by first | exact Or.inl rfl | exact Or.inr rfl) ?_
    simp [go_sem, ty3, ty22, hd1, hx, hh2, hhe, hrem]
    first | refine h7 _ ?_ | refine ⟨by omega, h7 _ ?_⟩ | refine ⟨by omega, by omega, h7 _ ?_⟩ | (repeat (refine ⟨by first | omega | grind, ?_⟩)); refine h7 _ ?_
    clear h7 K7
    refine W_ret ?_
    simp [go_sem, q]
  · have hon : ¬ h.owner < 0 := by simpa using hb6
    clear hb6
    obtain ⟨o, hoo⟩ : ∃ o : Nat, h.owner = (o : Int) := ⟨h.owner.toNat, by omega⟩
    have hol : o < w.nodes.length := by omega
    obtain ⟨y, hy⟩ : ∃ y, w.nodes[o] = y := ⟨_, rfl⟩
    have hyk := (world_node hw hol).1
    rw [hy] at hyk
    obtain ⟨yf, -, -, -, yfk, -, -, -⟩ := nodeOk_facts hyk
    have hf1 : p < y.frames.length := by omega
    obtain ⟨f, hfe⟩ : ∃ f, y.frames[p] = f := ⟨_, rfl⟩
    have hfk := yfk p hf1
    rw [hfe] at hfk
    have hy0 : w.nodes[o]? = some y := by simp [hol, hy]
    have hf0 : y.frames[p]? = some f := by simp [hf1, hfe]
    have hc1 := comingOf_ok hw hd1 hol
    have hc2 := comingOf_ok hw hol hd1
    have hcl1 := comingOf_len hw hd1 hol
    have hcl2 := comingOf_len hw hol hd1
    refine W_skip ?_
    first | refine h4 _ ?_ | refine ⟨by omega, h4 _ ?_⟩ | refine ⟨by omega, by omega, h4 _ ?_⟩ | (repeat (refine ⟨by first | omega | grind, ?_⟩)); refine h4 _ ?_
    clear h4 K4
    refine W_seqK fun K8 h8 => ?_
    refine W_seqK fun K9 h9 => ?_
    refine W_reg ?_
    simp [go_sem, ty3, ty42, ty47, ty58, ty61, ty118, ty123, hd1, hx, hh2, hhe, hrem, hoo, hol, hy, hf1, hfe]
    first | refine h9 _ ?_ | refine ⟨by omega, h9 _ ?_⟩ | refine ⟨by omega, by omega, h9 _ ?_⟩ | (repeat (refine ⟨by first | omega | grind, ?_⟩)); refine h9 _ ?_
    clear h9 K9
    refine W_seqK fun K10 h10 => ?_
    refine W_reg ?_
    simp [go_sem, ty3, ty4, ty118, hd1, hx, hh2, hhe, hrem, hoo, hol, hy, hf1, hfe]
    first | refine h10 _ ?_ | refine ⟨by omega, h10 _ ?_⟩ | refine ⟨by omega, by omega, h10 _ ?_⟩ | (repeat (refine ⟨by first | omega | grind, ?_⟩)); refine h10 _ ?_
    clear h10 K10
    refine W_cond rfl (fun hb11 => ?_) fun hb11 => ?_
    · have hst : f.state = 2 := by simpa using hb11
      have q := truthOf_frame e5 hx0 hh0 hoo hy0 hf0 hst
      have hfl := frameOk_two hfk hst
      clear hb11
      refine W_seqK fun K12 h12 => ?_
      refine W_reg ?_
      simp [go_sem, ty3, ty22, ty118, hd1, hx, hh2, hhe, hrem, hoo, hol, hy, hf1, hfe]
      refine callG_pc (fun hG => pc_slices_Clone_int_int f.list (by omega)) (by first | (simp; done) | (simp [inR_iff]; done) | (simp [inR_iff]; grind) | grind) (fun hG => by simp [go_sem, hd1, hx, hh2, hhe, hrem, hoo, hol, hy, hf1, hfe]) rfl rfl (by first | exact Or.inl rfl | exact Or.inr rfl) ?_
      simp [go_sem, ty3, ty22, hd1, hx, hh2, hhe, hrem, hoo, hol, hy, hf1, hfe]
      first | refine h12 _ ?_ | refine ⟨by omega, h12 _ ?_⟩ | refine ⟨by omega, by omega, h12 _ ?_⟩ | (repeat (refine ⟨by first | omega | grind, ?_⟩)); refine h12 _ ?_
      clear h12 K12
      refine W_ret ?_
      simp [go_sem, q]
    · have hst : ¬ f.state = 2 := by simpa using hb11
      clear hb11
      refine W_skip ?_
      first | refine h8 _ ?_ | refine ⟨by omega, h8 _ ?_⟩ | refine ⟨by omega, by omega, h8 _ ?_⟩ | (repeat (refine ⟨by first | omega | grind, ?_⟩)); refine h8 _ ?_
      clear h8 K8
      refine W_seqK fun K13 h13 => ?_
      refine W_reg ?_
      simp [go_sem, ty3, ty61, ty123, ty125, ty165, hd1, hx, hh2, hhe, hrem, hoo, hol, hy, hf1, hfe]
      refine callG_pc (fun hG => pc_impl_coming w d o hw hs hd1 hol) (by first | (simp; done) | (simp [inR_iff]; done) | (simp [inR_iff]; grind) | grind) (fun hG => by simp [go_sem, hd1, hx, hh2, hhe, hrem, hoo, hol, hy, hf1, hfe]) rfl rfl (by first | exact Or.inl rfl | exact Or.inr rfl) ?_
      simp [go_sem, ty125, ty165, hd1, hx, hh2, hhe, hrem, hoo, hol, hy, hf1, hfe]
      first | refine h13 _ ?_ | refine ⟨by omega, h13 _ ?_⟩ | refine ⟨by omega, by omega, h13 _ ?_⟩ | (repeat (refine ⟨by first | omega | grind, ?_⟩)); refine h13 _ ?_
      clear h13 K13
      refine W_seqK fun K14 h14 => ?_
      refine W_reg ?_
      simp [go_sem, ty125, ty165, hd1, hx, hh2, hhe, hrem, hoo, hol, hy, hf1, hfe]
      refine callG_true (by simp) (CallW_mut (mc_slices_Reverse_impl_Msg_impl_Msg (comingOf w d o) (by omega)) rfl rfl (by simp [go_sem, hd1, hx, hh2, hhe, hrem, hoo, hol, hy, hf1, hfe]) (by simp [go_sem, hd1, hx, hh2, hhe, hrem, hoo, hol, hy, hf1, hfe]) rfl ?_)
      simp [go_sem, hd1, hx, hh2, hhe, hrem, hoo, hol, hy, hf1, hfe]
      first | refine h14 _ ?_ | refine ⟨by omega, h14 _ ?_⟩ | refine ⟨by omega, by omega, h14 _ ?_⟩ | (repeat (refine ⟨by first | omega | grind, ?_⟩)); refine h14 _ ?_
      clear h14 K14
      refine W_seqK fun K15 h15 => ?_
      refine W_seqK fun K16 h16 => ?_
      refine W_reg ?_
      simp [go_sem, ty3, ty125, ty165, hd1, hx, hh2, hhe, hrem, hoo, hol, hy, hf1, hfe]
      first | refine h16 _ ?_ | refine ⟨by omega, h16 _ ?_⟩ | refine ⟨by omega, by omega, h16 _ ?_⟩ | (repeat (refine ⟨by first | omega | grind, ?_⟩)); refine h16 _ ?_
      clear h16 K16
      refine W_block ?_
      refine W_loopI (α := Nat) (fun i => ({ env := [(1, true, .l (.t (.int .i64 ((p : Int))))), (2, true, .l (.ptr 4 0)), (5, true, .l (.t (.int .i64 ((d : Int))))), (6, true, .l (.ptr 5 0)), (56, true, .l (.ref 50 [] 4 0 ((comingOf w d o).length))), (57, true, .l (.t (.int .i64 ((comingOf w d o).length)))), (58, true, .l (.t (.int .i64 (i))))], box := [(4, [.t (.int .i64 w.size), .ref 1 [] 5 0 w.nodes.length, .ref 2 [] 8 0 w.net.length]), (5, [.ref 1 [(d, 2), (p, 0)] 1 0 h.list.length, .t (.int .i64 (o : Int)), .ref 1 [(d, 2), (p, 2)] 1 0 h.readers.length, .t (.bool h.busy), .t (.int .i64 h.now.who), .t (.bool h.now.own), .t (.int .i64 h.acks), .ref 1 [(d, 2), (p, 7)] 2 0 h.queue.length])], row := [(50, ⟨.own, 4, enc eMsg (comingOf w d o).reverse⟩), (1, ⟨.ro, 5, enc eNode w.nodes⟩), (2, ⟨.ro, 8, enc ePacket w.net⟩)], nxt := 80, sav := [] } : St)) (fun i => i ≤ (comingOf w d o).length ∧ ∀ k, (hk9 : k < (comingOf w d o).reverse.length) → k < i → lastP 3 p (comingOf w d o).reverse[k] = false) (fun i => (comingOf w d o).length - i) 0 ?_ ?_ ?_
      · exact (Sub.swp_row 9 50 rfl).trans (Sub.of_neat [1, 2, 5, 6, 56, 57, 58] [50, 1, 2] [4, 5] 80 (by decide) (by simp [go_sem]))
      · simp
      rintro i hinv
      obtain ⟨hi, hall⟩ := hinv
      refine W_seqK fun K18 h18 => ?_
      refine W_reg ?_
      simp [go_sem, ty3, hd1, hx, hh2, hhe, hrem, hoo, hol, hy, hf1, hfe]
      first | refine h18 _ ?_ | refine ⟨by omega, h18 _ ?_⟩ | refine ⟨by omega, by omega, h18 _ ?_⟩ | (repeat (refine ⟨by first | omega | grind, ?_⟩)); refine h18 _ ?_
      clear h18 K18
      refine W_seqK fun K19 h19 => ?_
      refine W_cond rfl (fun hb20 => ?_) fun hb20 => ?_
      · have hlt : i < (comingOf w d o).length := by simpa using hb20
        have hltr : i < (comingOf w d o).reverse.length := by rw [List.length_reverse]; exact hlt
        obtain ⟨m, hme⟩ : ∃ m, (comingOf w d o).reverse[i] = m := ⟨_, rfl⟩
        have hmg : (comingOf w d o).reverse[i]? = some m := by rw [List.getElem?_eq_getElem hltr, hme]
        clear hb20
        refine W_skip ?_
        first | refine h19 _ ?_ | refine ⟨by omega, h19 _ ?_⟩ | refine ⟨by omega, by omega, h19 _ ?_⟩ | (repeat (refine ⟨by first | omega | grind, ?_⟩)); refine h19 _ ?_
        clear h19 K19
        refine W_seqK fun K21 h21 => ?_
        refine W_block ?_
        refine W_seqK fun K22 h22 => ?_
        refine W_reg ?_
        simp [go_sem, ty125, ty165, hd1, hx, hh2, hhe, hrem, hoo, hol, hy, hf1, hfe, hlt, hme, hmg]
        first | refine h22 _ ?_ | refine ⟨by omega, h22 _ ?_⟩ | refine ⟨by omega, by omega, h22 _ ?_⟩ | (repeat (refine ⟨by first | omega | grind, ?_⟩)); refine h22 _ ?_
        clear h22 K22
        refine W_seqK fun K23 h23 => ?_
        refine W_reg ?_
        simp [go_sem, ty3, ty4, ty165, hd1, hx, hh2, hhe, hrem, hoo, hol, hy, hf1, hfe, hlt, hme, hmg]
        first | refine h23 _ ?_ | refine ⟨by omega, h23 _ ?_⟩ | refine ⟨by omega, by omega, h23 _ ?_⟩ | (repeat (refine ⟨by first | omega | grind, ?_⟩)); refine h23 _ ?_
        clear h23 K23
        refine W_cond rfl (fun hb24 => ?_) fun hb24 => ?_
        · have hyes : lastP 3 p (comingOf w d o).reverse[i] = true := by rw [hme]; unfold lastP; simp at hb24 ⊢; grind
          have hfo := lastL_found (p := lastP 3 p) (l := comingOf w d o) rfl hltr hall hyes
          rw [hme] at hfo
          clear hb24
          have hml : m.list.length = 4 := msgOk_list (hc1 m (by rw [← hme]; simp)) (by unfold lastP at hyes; rw [hme] at hyes; simp at hyes; omega)
          have q : truthOf w p = m.list := by rw [truthOf_data e5 hx0 hh0 hoo hy0 hf0 hst (by rw [hfo]; omega), hfo]
          refine W_seqK fun K25 h25 => ?_
          refine W_sub (Sub.unpack (r := 50) (q := [(i, 3)]) (nm := 91) (z := 1) (es := enc eI m.list) (row := ⟨.own, 4, enc eMsg (comingOf w d o).reverse⟩) (by rfl) rfl (by simp [go_sem, hmg, hme, hlt]) (by simp) (by rfl)) ?_
          refine W_reg ?_
          simp [go_sem, ty3, ty22, ty165, hd1, hx, hh2, hhe, hrem, hoo, hol, hy, hf1, hfe, hlt, hme, hmg]
          first | refine h25 _ ?_ | refine ⟨by omega, h25 _ ?_⟩ | refine ⟨by omega, by omega, h25 _ ?_⟩ | (repeat (refine ⟨by first | omega | grind, ?_⟩)); refine h25 _ ?_
          clear h25 K25
          refine W_ret ?_
          simp [go_sem, q]
        · have hno : lastP 3 p (comingOf w d o).reverse[i] = false := by rw [hme]; unfold lastP; simp at hb24 ⊢; grind
          clear hb24
          refine W_skip ?_
          first | refine h21 _ ?_ | refine ⟨by omega, h21 _ ?_⟩ | refine ⟨by omega, by omega, h21 _ ?_⟩ | (repeat (refine ⟨by first | omega | grind, ?_⟩)); refine h21 _ ?_
          clear h21 K21
          refine W_reg ?_
          simp [go_sem, ty3, hd1, hx, hh2, hhe, hrem, hoo, hol, hy, hf1, hfe, hlt, hme, hmg]
          refine ⟨i + 1, ?_, ?_, ?_⟩
          · exact Sub.of_neat [1, 2, 5, 6, 56, 57, 58] [50, 1, 2] [4, 5] 80 (by decide) (by simp [go_sem, wrap_succ (show i < 9223372036854775807 by omega)])
          · have hall2 : ∀ k, (hk : k < (comingOf w d o).reverse.length) → k < i + 1 → lastP 3 p (comingOf w d o).reverse[k] = false := fun k hk hki => by rcases Nat.lt_succ_iff_lt_or_eq.1 hki with q9 | rfl; exact hall k hk q9; exact hno
            exact ⟨hlt, fun k hk hki => by have h9 := hall2 k (by simpa using hk) hki; simpa using h9⟩
          · omega
      · have hil : i = (comingOf w d o).length := by simp at hb20; omega
        have hnone := lastL_none (p := lastP 3 p) (l := comingOf w d o) (ys := (comingOf w d o).reverse) rfl fun k hk => hall k hk (by have h9 := hk; simp at h9; omega)
        clear hb20
        have hnl : ¬ 0 < (lastL (lastP 3 p) (comingOf w d o)).length := by rw [hnone]; simp
        have q0 := truthOf_back e5 hx0 hh0 hoo hy0 hf0 hst hnl
        refine W_exit ?_
        simp [go_sem]
        first | refine h15 _ ?_ | refine ⟨by omega, h15 _ ?_⟩ | refine ⟨by omega, by omega, h15 _ ?_⟩ | (repeat (refine ⟨by first | omega | grind, ?_⟩)); refine h15 _ ?_
        clear h19 K19 h15 K15
        refine W_seqK fun K26 h26 => ?_
        refine W_reg ?_
        simp [go_sem, ty3, ty61, ty123, ty125, ty165, hd1, hx, hh2, hhe, hrem, hoo, hol, hy, hf1, hfe]
        refine callG_pc (fun hG => pc_impl_coming w o d hw hs hol hd1) (by first | (simp; done) | (simp [inR_iff]; done) | (simp [inR_iff]; grind) | grind) (fun hG => by simp [go_sem, hd1, hx, hh2, hhe, hrem, hoo, hol, hy, hf1, hfe]) rfl rfl (by first | exact Or.inl rfl | exact Or.inr rfl) ?_
        simp [go_sem, ty125, ty165, hd1, hx, hh2, hhe, hrem, hoo, hol, hy, hf1, hfe]
        first | refine h26 _ ?_ | refine ⟨by omega, h26 _ ?_⟩ | refine ⟨by omega, by omega, h26 _ ?_⟩ | (repeat (refine ⟨by first | omega | grind, ?_⟩)); refine h26 _ ?_
        clear h26 K26
        refine W_seqK fun K27 h27 => ?_
        refine W_reg ?_
        simp [go_sem, ty125, ty165, hd1, hx, hh2, hhe, hrem, hoo, hol, hy, hf1, hfe]
        refine callG_true (by simp) (CallW_mut (mc_slices_Reverse_impl_Msg_impl_Msg (comingOf w o d) (by omega)) rfl rfl (by simp [go_sem, hd1, hx, hh2, hhe, hrem, hoo, hol, hy, hf1, hfe]) (by simp [go_sem, hd1, hx, hh2, hhe, hrem, hoo, hol, hy, hf1, hfe]) rfl ?_)
        simp [go_sem, hd1, hx, hh2, hhe, hrem, hoo, hol, hy, hf1, hfe]
        first | refine h27 _ ?_ | refine ⟨by omega, h27 _ ?_⟩ | refine ⟨by omega, by omega, h27 _ ?_⟩ | (repeat (refine ⟨by first | omega | grind, ?_⟩)); refine h27 _ ?_
        clear h27 K27
        refine W_seqK fun K28 h28 => ?_
        refine W_seqK fun K29 h29 => ?_
        refine W_reg ?_
        simp [go_sem, ty3, ty125, ty165, hd1, hx, hh2, hhe, hrem, hoo, hol, hy, hf1, hfe]
        first | refine h29 _ ?_ | refine ⟨by omega, h29 _ ?_⟩ | refine ⟨by omega, by omega, h29 _ ?_⟩ | (repeat (refine ⟨by first | omega | grind, ?_⟩)); refine h29 _ ?_
        clear h29 K29
        refine W_block ?_
        refine W_loopI (α := Nat) (fun i => ({ env := [(1, true, .l (.t (.int .i64 ((p : Int))))), (85, true, .l (.ref 51 [] 4 0 ((comingOf w o d).length))), (86, true, .l (.t (.int .i64 ((comingOf w o d).length)))), (87, true, .l (.t (.int .i64 (i))))], box := [], row := [(51, ⟨.own, 4, enc eMsg (comingOf w o d).reverse⟩), (1, ⟨.ro, 5, enc eNode w.nodes⟩)], nxt := 80, sav := [] } : St)) (fun i => i ≤ (comingOf w o d).length ∧ ∀ k, (hk9 : k < (comingOf w o d).reverse.length) → k < i → lastP 7 p (comingOf w o d).reverse[k] = false) (fun i => (comingOf w o d).length - i) 0 ?_ ?_ ?_
        · exact (Sub.swp_row 80 51 rfl).trans (Sub.of_neat [1, 85, 86, 87] [51, 1] [] 80 (by decide) (by simp [go_sem]))
        · simp
        rintro i hinv
        obtain ⟨hi, hall⟩ := hinv
        refine W_seqK fun K31 h31 => ?_
        refine W_reg ?_
        simp [go_sem, ty3, hd1, hx, hh2, hhe, hrem, hoo, hol, hy, hf1, hfe]
        first | refine h31 _ ?_ | refine ⟨by omega, h31 _ ?_⟩ | refine ⟨by omega, by omega, h31 _ ?_⟩ | (repeat (refine ⟨by first | omega | grind, ?_⟩)); refine h31 _ ?_
        clear h31 K31
        refine W_seqK fun K32 h32 => ?_
        refine W_cond rfl (fun hb33 => ?_) fun hb33 => ?_
        · have hlt : i < (comingOf w o d).length := by simpa using hb33
          have hltr : i < (comingOf w o d).reverse.length := by rw [List.length_reverse]; exact hlt
          obtain ⟨m, hme⟩ : ∃ m, (comingOf w o d).reverse[i] = m := ⟨_, rfl⟩
          have hmg : (comingOf w o d).reverse[i]? = some m := by rw [List.getElem?_eq_getElem hltr, hme]
          clear hb33
          refine W_skip ?_
          first | refine h32 _ ?_ | refine ⟨by omega, h32 _ ?_⟩ | refine ⟨by omega, by omega, h32 _ ?_⟩ | (repeat (refine ⟨by first | omega | grind, ?_⟩)); refine h32 _ ?_
          clear h32 K32
          refine W_seqK fun K34 h34 => ?_
          refine W_block ?_
          refine W_seqK fun K35 h35 => ?_
          refine W_reg ?_
          simp [go_sem, ty125, ty165, hd1, hx, hh2, hhe, hrem, hoo, hol, hy, hf1, hfe, hlt, hme, hmg]
          first | refine h35 _ ?_ | refine ⟨by omega, h35 _ ?_⟩ | refine ⟨by omega, by omega, h35 _ ?_⟩ | (repeat (refine ⟨by first | omega | grind, ?_⟩)); refine h35 _ ?_
          clear h35 K35
          refine W_seqK fun K36 h36 => ?_
          refine W_reg ?_
          simp [go_sem, ty3, ty4, ty165, hd1, hx, hh2, hhe, hrem, hoo, hol, hy, hf1, hfe, hlt, hme, hmg]
          first | refine h36 _ ?_ | refine ⟨by omega, h36 _ ?_⟩ | refine ⟨by omega, by omega, h36 _ ?_⟩ | (repeat (refine ⟨by first | omega | grind, ?_⟩)); refine h36 _ ?_
          clear h36 K36
          refine W_cond rfl (fun hb37 => ?_) fun hb37 => ?_
          · have hyes : lastP 7 p (comingOf w o d).reverse[i] = true := by rw [hme]; unfold lastP; simp at hb37 ⊢; grind
            have hfo := lastL_found (p := lastP 7 p) (l := comingOf w o d) rfl hltr hall hyes
            rw [hme] at hfo
            clear hb37
            have q : truthOf w p = m.list := by rw [q0, hfo]
            have hml : m.list.length ≤ 4 := msgOk_len (hc2 m (by rw [← hme]; simp))
            refine W_seqK fun K38 h38 => ?_
            refine W_sub (Sub.unpack (r := 51) (q := [(i, 3)]) (nm := 91) (z := 1) (es := enc eI m.list) (row := ⟨.own, 4, enc eMsg (comingOf w o d).reverse⟩) (by rfl) rfl (by simp [go_sem, hmg, hme, hlt]) (by simp) (by rfl)) ?_
            refine W_reg ?_
            simp [go_sem, ty3, ty22, ty165, hd1, hx, hh2, hhe, hrem, hoo, hol, hy, hf1, hfe, hlt, hme, hmg]
            first | refine h38 _ ?_ | refine ⟨by omega, h38 _ ?_⟩ | refine ⟨by omega, by omega, h38 _ ?_⟩ | (repeat (refine ⟨by first | omega | grind, ?_⟩)); refine h38 _ ?_
            clear h38 K38
            refine W_ret ?_
            simp [go_sem, q]
          · have hno : lastP 7 p (comingOf w o d).reverse[i] = false := by rw [hme]; unfold lastP; simp at hb37 ⊢; grind
            clear hb37
            refine W_skip ?_
            first | refine h34 _ ?_ | refine ⟨by omega, h34 _ ?_⟩ | refine ⟨by omega, by omega, h34 _ ?_⟩ | (repeat (refine ⟨by first | omega | grind, ?_⟩)); refine h34 _ ?_
            clear h34 K34
            refine W_reg ?_
            simp [go_sem, ty3, hd1, hx, hh2, hhe, hrem, hoo, hol, hy, hf1, hfe, hlt, hme, hmg]
            refine ⟨i + 1, ?_, ?_, ?_⟩
            · exact Sub.of_neat [1, 85, 86, 87] [51, 1] [] 80 (by decide) (by simp [go_sem, wrap_succ (show i < 9223372036854775807 by omega)])
            · have hall2 : ∀ k, (hk : k < (comingOf w o d).reverse.length) → k < i + 1 → lastP 7 p (comingOf w o d).reverse[k] = false := fun k hk hki => by rcases Nat.lt_succ_iff_lt_or_eq.1 hki with q9 | rfl; exact hall k hk q9; exact hno
              exact ⟨hlt, fun k hk hki => by have h9 := hall2 k (by simpa using hk) hki; simpa using h9⟩
            · omega
        · have hil : i = (comingOf w o d).length := by simp at hb33; omega
          have hnone := lastL_none (p := lastP 7 p) (l := comingOf w o d) (ys := (comingOf w o d).reverse) rfl fun k hk => hall k hk (by have h9 := hk; simp at h9; omega)
          clear hb33
          have q : truthOf w p = [] := q0.trans hnone
          refine W_exit ?_
          simp [go_sem]
          first | refine h28 _ ?_ | refine ⟨by omega, h28 _ ?_⟩ | refine ⟨by omega, by omega, h28 _ ?_⟩ | (repeat (refine ⟨by first | omega | grind, ?_⟩)); refine h28 _ ?_
          clear h32 K32 h28 K28
          refine W_seqK fun K39 h39 => ?_
          refine W_reg ?_
          simp [go_sem, ty3, ty22, hd1, hx, hh2, hhe, hrem, hoo, hol, hy, hf1, hfe]
          first | refine h39 _ ?_ | refine ⟨by omega, h39 _ ?_⟩ | refine ⟨by omega, by omega, h39 _ ?_⟩ | (repeat (refine ⟨by first | omega | grind, ?_⟩)); refine h39 _ ?_
          clear h39 K39
          refine W_ret ?_
          simp [go_sem, q]

set_option maxRecDepth 100000 in
set_option maxHeartbeats 4000000 in
theorem pc_spec_Truth (w : GWorld) (page : Int) (hs : w.small) : PC Tryz.prog 48 [(true, eWorld w), (false, [.int .i64 page])] [(false, [.sl 1 (enc eI (truthR w page))])] := by
  refine PC_of (n := 17) Tryz.func48 rfl rfl rfl rfl (by simp) ?_
  refine W_seqK fun K1 h1 => ?_
  refine W_reg ?_
  simp [go_sem, ty3, ty22, ty61]
  first | refine h1 _ ?_ | refine ⟨by omega, h1 _ ?_⟩ | refine ⟨by omega, by omega, h1 _ ?_⟩ | (repeat (refine ⟨by first | omega | grind, ?_⟩)); refine h1 _ ?_
  clear h1 K1
  refine W_seqK fun K2 h2 => ?_
  refine W_seqK fun K3 h3 => ?_
  refine W_reg ?_
  simp [go_sem, ty4, ty61]
  refine callG_pc (fun hG => pc_spec_WorldOk w (by first | assumption | omega)) (by first | (simp; done) | (simp [inR_iff]; done) | (simp [inR_iff]; grind) | grind) (fun hG => by simp [go_sem]) rfl rfl (by first | exact Or.inl rfl | exact Or.inr rfl) ?_
  simp [go_sem, ty3, ty4]
  refine callG_pc (fun hG => pc_spec_l1In page 0 5) (by first | (simp; done) | (simp [inR_iff]; done) | (simp [inR_iff]; grind) | grind) (fun hG => by simp [go_sem]) rfl rfl (by first | exact Or.inl rfl | exact Or.inr rfl) ?_
  simp [go_sem, ty4]
  first | refine h3 _ ?_ | refine ⟨by omega, h3 _ ?_⟩ | refine ⟨by omega, by omega, h3 _ ?_⟩ | (repeat (refine ⟨by first | omega | grind, ?_⟩)); refine h3 _ ?_
  clear h3 K3
  refine W_cond rfl (fun hb4 => ?_) fun hb4 => ?_
  · have q : truthR w page = [] := truthR_no (by unfold inR at hb4; simp at hb4 ⊢; grind)
    clear hb4
    refine W_seqK fun K5 h5 => ?_
    refine W_reg ?_
    simp [go_sem, ty3, ty22]
    first | refine h5 _ ?_ | refine ⟨by omega, h5 _ ?_⟩ | refine ⟨by omega, by omega, h5 _ ?_⟩ | (repeat (refine ⟨by first | omega | grind, ?_⟩)); refine h5 _ ?_
    clear h5 K5
    refine W_ret ?_
    simp [go_sem, q]
  · obtain ⟨qw, q1, q2⟩ : worldOk w = true ∧ 0 ≤ page ∧ page ≤ 5 := by unfold inR at hb4; simp at hb4; grind
    have q := truthR_yes ⟨qw, q1, q2⟩
    obtain ⟨p, rfl⟩ : ∃ p : Nat, page = p := ⟨page.toNat, by omega⟩
    rw [Int.toNat_natCast] at q
    clear hb4
    refine W_skip ?_
    first | refine h2 _ ?_ | refine ⟨by omega, h2 _ ?_⟩ | refine ⟨by omega, by omega, h2 _ ?_⟩ | (repeat (refine ⟨by first | omega | grind, ?_⟩)); refine h2 _ ?_
    clear h2 K2
    refine W_seqK fun K6 h6 => ?_
    refine W_reg ?_
    simp [go_sem, ty3, ty22, ty61]
    refine callG_pc (fun hG => pc_spec_l7Truth w p qw hs (by omega)) (by first | (simp; done) | (simp [inR_iff]; done) | (simp [inR_iff]; grind) | grind) (fun hG => by simp [go_sem]) rfl rfl (by first | exact Or.inl rfl | exact Or.inr rfl) ?_
    simp [go_sem, ty3, ty22]
    first | refine h6 _ ?_ | refine ⟨by omega, h6 _ ?_⟩ | refine ⟨by omega, by omega, h6 _ ?_⟩ | (repeat (refine ⟨by first | omega | grind, ?_⟩)); refine h6 _ ?_
    clear h6 K6
    refine W_ret ?_
    simp [go_sem, q]

set_option maxRecDepth 100000 in
set_option maxHeartbeats 4000000 in
theorem pc_impl_Truth (w : GWorld) (page : Int) (hs : w.small) : PC Tryz.prog 51 [(true, eWorld w), (false, [.int .i64 page])] [(false, [.sl 1 (enc eI (truthR w page))])] := by
  refine PC_of (n := 16) Tryz.func51 rfl rfl rfl rfl (by simp) ?_
  refine W_seqK fun K1 h1 => ?_
  refine W_reg ?_
  simp [go_sem, ty3, ty22, ty61]
  first | refine h1 _ ?_ | refine ⟨by omega, h1 _ ?_⟩ | refine ⟨by omega, by omega, h1 _ ?_⟩ | (repeat (refine ⟨by first | omega | grind, ?_⟩)); refine h1 _ ?_
  clear h1 K1
  refine W_seqK fun K2 h2 => ?_
  refine W_seqK fun K3 h3 => ?_
  refine W_reg ?_
  simp [go_sem, ty4, ty61]
  refine callG_pc (fun hG => pc_impl_WorldOk w (by first | assumption | omega)) (by first | (simp; done) | (simp [inR_iff]; done) | (simp [inR_iff]; grind) | grind) (fun hG => by simp [go_sem]) rfl rfl (by first | exact Or.inl rfl | exact Or.inr rfl) ?_
  simp [go_sem, ty3, ty4]
  refine callG_pc (fun hG => pc_impl_isPage page) (by first | (simp; done) | (simp [inR_iff]; done) | (simp [inR_iff]; grind) | grind) (fun hG => by simp [go_sem]) rfl rfl (by first | exact Or.inl rfl | exact Or.inr rfl) ?_
  simp [go_sem, ty4]
  first | refine h3 _ ?_ | refine ⟨by omega, h3 _ ?_⟩ | refine ⟨by omega, by omega, h3 _ ?_⟩ | (repeat (refine ⟨by first | omega | grind, ?_⟩)); refine h3 _ ?_
  clear h3 K3
  refine W_cond rfl (fun hb4 => ?_) fun hb4 => ?_
  · have q : truthR w page = [] := truthR_no (by unfold inR at hb4; simp at hb4 ⊢; grind)
    clear hb4
    refine W_seqK fun K5 h5 => ?_
    refine W_reg ?_
    simp [go_sem, ty3, ty22]
    first | refine h5 _ ?_ | refine ⟨by omega, h5 _ ?_⟩ | refine ⟨by omega, by omega, h5 _ ?_⟩ | (repeat (refine ⟨by first | omega | grind, ?_⟩)); refine h5 _ ?_
    clear h5 K5
    refine W_ret ?_
    simp [go_sem, q]
  · obtain ⟨qw, q1, q2⟩ : worldOk w = true ∧ 0 ≤ page ∧ page ≤ 5 := by unfold inR at hb4; simp at hb4; grind
    have q := truthR_yes ⟨qw, q1, q2⟩
    obtain ⟨p, rfl⟩ : ∃ p : Nat, page = p := ⟨page.toNat, by omega⟩
    rw [Int.toNat_natCast] at q
    clear hb4
    refine W_skip ?_
    first | refine h2 _ ?_ | refine ⟨by omega, h2 _ ?_⟩ | refine ⟨by omega, by omega, h2 _ ?_⟩ | (repeat (refine ⟨by first | omega | grind, ?_⟩)); refine h2 _ ?_
    clear h2 K2
    refine W_seqK fun K6 h6 => ?_
    refine W_reg ?_
    simp [go_sem, ty3, ty22, ty61]
    refine callG_pc (fun hG => pc_impl_truth w p qw hs (by omega)) (by first | (simp; done) | (simp [inR_iff]; done) | (simp [inR_iff]; grind) | grind) (fun hG => by simp [go_sem]) rfl rfl (by first | exact Or.inl rfl | exact Or.inr rfl) ?_
    simp [go_sem, ty3, ty22]
    first | refine h6 _ ?_ | refine ⟨by omega, h6 _ ?_⟩ | refine ⟨by omega, by omega, h6 _ ?_⟩ | (repeat (refine ⟨by first | omega | grind, ?_⟩)); refine h6 _ ?_
    clear h6 K6
    refine W_ret ?_
    simp [go_sem, q]

set_option maxRecDepth 100000 in
set_option maxHeartbeats 4000000 in
theorem pc_spec_Memory (w : GWorld) (hs : w.small) : PC Tryz.prog 14 [(true, eWorld w)] [(false, [.sl 1 (enc eI (memory w))])] := by
  refine PC_of (n := 22) Tryz.func14 rfl rfl rfl rfl (by simp) ?_
  refine W_seqK fun K1 h1 => ?_
  refine W_reg ?_
  simp [go_sem, ty3, ty22, ty61]
  first | refine h1 _ ?_ | refine ⟨by omega, h1 _ ?_⟩ | refine ⟨by omega, by omega, h1 _ ?_⟩ | (repeat (refine ⟨by first | omega | grind, ?_⟩)); refine h1 _ ?_
  clear h1 K1
  refine W_seqK fun K2 h2 => ?_
  refine W_reg ?_
  simp [go_sem, ty3, ty22]
  first | refine h2 _ ?_ | refine ⟨by omega, h2 _ ?_⟩ | refine ⟨by omega, by omega, h2 _ ?_⟩ | (repeat (refine ⟨by first | omega | grind, ?_⟩)); refine h2 _ ?_
  clear h2 K2
  refine W_seqK fun K3 h3 => ?_
  refine W_seqK fun K4 h4 => ?_
  refine W_reg ?_
  simp [go_sem, ty3]
  first | refine h4 _ ?_ | refine ⟨by omega, h4 _ ?_⟩ | refine ⟨by omega, by omega, h4 _ ?_⟩ | (repeat (refine ⟨by first | omega | grind, ?_⟩)); refine h4 _ ?_
  clear h4 K4
  refine W_block ?_
  refine W_loopI (α := Nat × List Int) (fun p => ({ env := [(1, true, .l (.ptr 3 0)), (3, true, .l (.ref 40 [] 1 0 (p.2.length))), (4, true, .l (.t (.int .i64 (p.1))))], box := [(3, [.t (.int .i64 w.size), .ref 1 [] 5 0 w.nodes.length, .ref 2 [] 8 0 w.net.length])], row := [(40, ⟨.own, 1, enc eI p.2⟩), (1, ⟨.ro, 5, enc eNode w.nodes⟩), (2, ⟨.ro, 8, enc ePacket w.net⟩)], nxt := 60, sav := [] } : St)) (fun p => p.1 ≤ 6 ∧ memN w p.1 = some p.2) (fun p => 6 - p.1) (0, []) ?_ ?_ ?_
  · exact (Sub.nilRow (t := 3) (nm := 40) (z := 1) (by rfl) (by rfl)).trans (Sub.of_neat [1, 3, 4] [40, 1, 2] [3] 60 (by decide) (by simp [go_sem, enc_nil]))
  · exact ⟨by omega, rfl⟩
  rintro p hinv
  obtain ⟨hi, hm⟩ := hinv
  have hml := memN_len hm
  refine W_seqK fun K6 h6 => ?_
  refine W_seqK fun K7 h7 => ?_
  refine W_reg ?_
  simp [go_sem, ty3, ty4]
  first | refine h7 _ ?_ | refine ⟨by omega, h7 _ ?_⟩ | refine ⟨by omega, by omega, h7 _ ?_⟩ | (repeat (refine ⟨by first | omega | grind, ?_⟩)); refine h7 _ ?_
  clear h7 K7
  refine W_cond rfl (fun hb8 => ?_) fun hb8 => ?_
  · have hlt : p.1 < 6 := by simp at hb8; omega
    have htl := truthR_len w p.1
    clear hb8
    refine W_skip ?_
    first | refine h6 _ ?_ | refine ⟨by omega, h6 _ ?_⟩ | refine ⟨by omega, by omega, h6 _ ?_⟩ | (repeat (refine ⟨by first | omega | grind, ?_⟩)); refine h6 _ ?_
    clear h6 K6
    refine W_seqK fun K9 h9 => ?_
    refine W_block ?_
    refine W_seqK fun K10 h10 => ?_
    refine W_reg ?_
    simp [go_sem, ty3, ty22, ty61]
    refine callG_pc (fun hG => pc_spec_Truth w (p.1 : Int) hs) (by first | (simp; done) | (simp [inR_iff]; done) | (simp [inR_iff]; grind) | grind) (fun hG => by simp [go_sem]) rfl rfl (by first | exact Or.inl rfl | exact Or.inr rfl) ?_
    simp [go_sem, ty3, ty22]
    first | refine h10 _ ?_ | refine ⟨by omega, h10 _ ?_⟩ | refine ⟨by omega, by omega, h10 _ ?_⟩ | (repeat (refine ⟨by first | omega | grind, ?_⟩)); refine h10 _ ?_
    clear h10 K10
    refine W_seqK fun K11 h11 => ?_
    refine W_seqK fun K12 h12 => ?_
    refine W_reg ?_
    simp [go_sem, ty3, ty4, ty22]
    first | refine h12 _ ?_ | refine ⟨by omega, h12 _ ?_⟩ | refine ⟨by omega, by omega, h12 _ ?_⟩ | (repeat (refine ⟨by first | omega | grind, ?_⟩)); refine h12 _ ?_
    clear h12 K12
    refine W_cond rfl (fun hb13 => ?_) fun hb13 => ?_
    · have q := memory_none hm (by simp at hb13; first | omega | (rw [hb13]; simp)) hlt
      refine W_seqK fun K14 h14 => ?_
      refine W_reg ?_
      simp [go_sem, ty3, ty22]
      first | refine h14 _ ?_ | refine ⟨by omega, h14 _ ?_⟩ | refine ⟨by omega, by omega, h14 _ ?_⟩ | (repeat (refine ⟨by first | omega | grind, ?_⟩)); refine h14 _ ?_
      clear h14 K14
      refine W_ret ?_
      simp [go_sem, q]
    · have hl4 : (truthR w p.1).length = 4 := by simp at hb13; first | omega | (rcases htl with q9 | q9; exact absurd (List.length_eq_zero_iff.1 q9) hb13; exact q9)
      clear hb13
      refine W_skip ?_
      first | refine h11 _ ?_ | refine ⟨by omega, h11 _ ?_⟩ | refine ⟨by omega, by omega, h11 _ ?_⟩ | (repeat (refine ⟨by first | omega | grind, ?_⟩)); refine h11 _ ?_
      clear h11 K11
      refine W_reg ?_
      simp [go_sem, ty3, ty22]
      first | refine h9 _ ?_ | refine ⟨by omega, h9 _ ?_⟩ | refine ⟨by omega, by omega, h9 _ ?_⟩ | (repeat (refine ⟨by first | omega | grind, ?_⟩)); refine h9 _ ?_
      clear h9 K9
      refine W_reg ?_
      simp [go_sem, ty3]
      refine ⟨p.1 + 1, p.2 ++ truthR w p.1, ?_, ?_, ?_⟩
      · exact (Sub.swp_row 61 40 rfl).trans (Sub.of_neat [1, 3, 4] [40, 1, 2] [3] 60 (by decide) (by simp [go_sem, wrap_succ (show p.1 < 9223372036854775807 by omega)]))
      · exact ⟨hlt, memN_step hm hl4⟩
      · first | omega | (simp; omega)
  · have hp6 : p.1 = 6 := by simp at hb8; omega
    rw [hp6] at hm
    have q := memory_some hm
    clear hb8
    refine W_exit ?_
    simp [go_sem]
    first | refine h3 _ ?_ | refine ⟨by omega, h3 _ ?_⟩ | refine ⟨by omega, by omega, h3 _ ?_⟩ | (repeat (refine ⟨by first | omega | grind, ?_⟩)); refine h3 _ ?_
    clear h6 K6 h3 K3
    refine W_seqK fun K15 h15 => ?_
    refine W_reg ?_
    simp [go_sem, ty3, ty22]
    first | refine h15 _ ?_ | refine ⟨by omega, h15 _ ?_⟩ | refine ⟨by omega, by omega, h15 _ ?_⟩ | (repeat (refine ⟨by first | omega | grind, ?_⟩)); refine h15 _ ?_
    clear h15 K15
    refine W_ret ?_
    simp [go_sem, q]

set_option maxRecDepth 100000 in
set_option maxHeartbeats 4000000 in
theorem pc_impl_Memory (w : GWorld) (hs : w.small) : PC Tryz.prog 16 [(true, eWorld w)] [(false, [.sl 1 (enc eI (memory w))])] := by
  refine PC_of (n := 21) Tryz.func16 rfl rfl rfl rfl (by simp) ?_
  refine W_seqK fun K1 h1 => ?_
  refine W_reg ?_
  simp [go_sem, ty3, ty22, ty61]
  first | refine h1 _ ?_ | refine ⟨by omega, h1 _ ?_⟩ | refine ⟨by omega, by omega, h1 _ ?_⟩ | (repeat (refine ⟨by first | omega | grind, ?_⟩)); refine h1 _ ?_
  clear h1 K1
  refine W_seqK fun K2 h2 => ?_
  refine W_reg ?_
  simp [go_sem, ty3, ty22]
  first | refine h2 _ ?_ | refine ⟨by omega, h2 _ ?_⟩ | refine ⟨by omega, by omega, h2 _ ?_⟩ | (repeat (refine ⟨by first | omega | grind, ?_⟩)); refine h2 _ ?_
  clear h2 K2
  refine W_seqK fun K3 h3 => ?_
  refine W_seqK fun K4 h4 => ?_
  refine W_reg ?_
  simp [go_sem, ty3]
  first | refine h4 _ ?_ | refine ⟨by omega, h4 _ ?_⟩ | refine ⟨by omega, by omega, h4 _ ?_⟩ | (repeat (refine ⟨by first | omega | grind, ?_⟩)); refine h4 _ ?_
  clear h4 K4
  refine W_block ?_
  refine W_loopI (α := Nat × List Int) (fun p => ({ env := [(1, true, .l (.ptr 3 0)), (3, true, .l (.ref 40 [] 1 0 (p.2.length))), (7, true, .l (.t (.int .i64 (p.1))))], box := [(3, [.t (.int .i64 w.size), .ref 1 [] 5 0 w.nodes.length, .ref 2 [] 8 0 w.net.length])], row := [(40, ⟨.own, 1, enc eI p.2⟩), (1, ⟨.ro, 5, enc eNode w.nodes⟩), (2, ⟨.ro, 8, enc ePacket w.net⟩)], nxt := 60, sav := [] } : St)) (fun p => p.1 ≤ 6 ∧ memN w p.1 = some p.2) (fun p => 6 - p.1) (0, []) ?_ ?_ ?_
  · exact (Sub.nilRow (t := 3) (nm := 40) (z := 1) (by rfl) (by rfl)).trans (Sub.of_neat [1, 3, 7] [40, 1, 2] [3] 60 (by decide) (by simp [go_sem, enc_nil]))
  · exact ⟨by omega, rfl⟩
  rintro p hinv
  obtain ⟨hi, hm⟩ := hinv
  have hml := memN_len hm
  refine W_seqK fun K6 h6 => ?_
  refine W_reg ?_
  simp [go_sem, ty3, ty4]
  first | refine h6 _ ?_ | refine ⟨by omega, h6 _ ?_⟩ | refine ⟨by omega, by omega, h6 _ ?_⟩ | (repeat (refine ⟨by first | omega | grind, ?_⟩)); refine h6 _ ?_
  clear h6 K6
  refine W_seqK fun K7 h7 => ?_
  refine W_cond rfl (fun hb8 => ?_) fun hb8 => ?_
  · have hlt : p.1 < 6 := by simp at hb8; omega
    have htl := truthR_len w p.1
    clear hb8
    refine W_skip ?_
    first | refine h7 _ ?_ | refine ⟨by omega, h7 _ ?_⟩ | refine ⟨by omega, by omega, h7 _ ?_⟩ | (repeat (refine ⟨by first | omega | grind, ?_⟩)); refine h7 _ ?_
    clear h7 K7
    refine W_seqK fun K9 h9 => ?_
    refine W_block ?_
    refine W_seqK fun K10 h10 => ?_
    refine W_reg ?_
    simp [go_sem, ty3]
    first | refine h10 _ ?_ | refine ⟨by omega, h10 _ ?_⟩ | refine ⟨by omega, by omega, h10 _ ?_⟩ | (repeat (refine ⟨by first | omega | grind, ?_⟩)); refine h10 _ ?_
    clear h10 K10
    refine W_seqK fun K11 h11 => ?_
    refine W_reg ?_
    simp [go_sem, ty3, ty22, ty61]
    refine callG_pc (fun hG => pc_impl_Truth w (p.1 : Int) hs) (by first | (simp; done) | (simp [inR_iff]; done) | (simp [inR_iff]; grind) | grind) (fun hG => by simp [go_sem]) rfl rfl (by first | exact Or.inl rfl | exact Or.inr rfl) ?_
    simp [go_sem, ty3, ty22]
    first | refine h11 _ ?_ | refine ⟨by omega, h11 _ ?_⟩ | refine ⟨by omega, by omega, h11 _ ?_⟩ | (repeat (refine ⟨by first | omega | grind, ?_⟩)); refine h11 _ ?_
    clear h11 K11
    refine W_seqK fun K12 h12 => ?_
    refine W_seqK fun K13 h13 => ?_
    refine W_reg ?_
    simp [go_sem, ty3, ty4, ty22]
    first | refine h13 _ ?_ | refine ⟨by omega, h13 _ ?_⟩ | refine ⟨by omega, by omega, h13 _ ?_⟩ | (repeat (refine ⟨by first | omega | grind, ?_⟩)); refine h13 _ ?_
    clear h13 K13
    refine W_cond rfl (fun hb14 => ?_) fun hb14 => ?_
    · have q := memory_none hm (by simp at hb14; first | omega | (rw [hb14]; simp)) hlt
      refine W_seqK fun K15 h15 => ?_
      refine W_reg ?_
      simp [go_sem, ty3, ty22]
      first | refine h15 _ ?_ | refine ⟨by omega, h15 _ ?_⟩ | refine ⟨by omega, by omega, h15 _ ?_⟩ | (repeat (refine ⟨by first | omega | grind, ?_⟩)); refine h15 _ ?_
      clear h15 K15
      refine W_ret ?_
      simp [go_sem, q]
    · have hl4 : (truthR w p.1).length = 4 := by simp at hb14; first | omega | (rcases htl with q9 | q9; exact absurd (List.length_eq_zero_iff.1 q9) hb14; exact q9)
      clear hb14
      refine W_skip ?_
      first | refine h12 _ ?_ | refine ⟨by omega, h12 _ ?_⟩ | refine ⟨by omega, by omega, h12 _ ?_⟩ | (repeat (refine ⟨by first | omega | grind, ?_⟩)); refine h12 _ ?_
      clear h12 K12
      refine W_reg ?_
      simp [go_sem, ty3, ty22]
      first | refine h9 _ ?_ | refine ⟨by omega, h9 _ ?_⟩ | refine ⟨by omega, by omega, h9 _ ?_⟩ | (repeat (refine ⟨by first | omega | grind, ?_⟩)); refine h9 _ ?_
      clear h9 K9
      refine W_reg ?_
      simp [go_sem, ty3]
      refine ⟨p.1 + 1, p.2 ++ truthR w p.1, ?_, ?_, ?_⟩
      · exact (Sub.swp_row 61 40 rfl).trans (Sub.of_neat [1, 3, 7] [40, 1, 2] [3] 60 (by decide) (by simp [go_sem, wrap_succ (show p.1 < 9223372036854775807 by omega)]))
      · exact ⟨hlt, memN_step hm hl4⟩
      · first | omega | (simp; omega)
  · have hp6 : p.1 = 6 := by simp at hb8; omega
    rw [hp6] at hm
    have q := memory_some hm
    clear hb8
    refine W_exit ?_
    simp [go_sem]
    first | refine h3 _ ?_ | refine ⟨by omega, h3 _ ?_⟩ | refine ⟨by omega, by omega, h3 _ ?_⟩ | (repeat (refine ⟨by first | omega | grind, ?_⟩)); refine h3 _ ?_
    clear h7 K7 h3 K3
    refine W_seqK fun K16 h16 => ?_
    refine W_reg ?_
    simp [go_sem, ty3, ty22]
    first | refine h16 _ ?_ | refine ⟨by omega, h16 _ ?_⟩ | refine ⟨by omega, by omega, h16 _ ?_⟩ | (repeat (refine ⟨by first | omega | grind, ?_⟩)); refine h16 _ ?_
    clear h16 K16
    refine W_ret ?_
    simp [go_sem, q]
end Go.Tw
