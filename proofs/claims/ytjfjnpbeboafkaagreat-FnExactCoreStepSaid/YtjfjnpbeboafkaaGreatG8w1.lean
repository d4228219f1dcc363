/- Walks of functions: spec.Work -/
import Derived.Test.YtjfjnpbeboafkaaGreatG8b
set_option linter.unusedSimpArgs false
set_option linter.unusedVariables false
set_option linter.unnecessarySimpa false
namespace Go.Tw
open Go.Proofs

set_option maxRecDepth 100000 in
set_option maxHeartbeats 4000000 in
theorem pc_spec_Work (h : GHart) (x : GIns) (got : Int) (hx : h.regs.length ≤ 1048576) : PC Tryz.prog 32 [(true, eHart h), (true, eIns x), (false, [.int .i64 got])] [(true, eHart ((work h x got).1)), (false, [.int .i64 ((work h x got).2)])] := by
  refine PC_of (n := 143) Tryz.func32 rfl rfl rfl rfl (by simp) ?_
  refine W_seqK fun K1 h1 => ?_
  refine W_reg ?_
  simp [go_sem, ty3, ty36, ty68]
  repeat refine tk ?_
  refine h1 _ ?_
  clear h1 K1
  refine W_seqK fun K2 h2 => ?_
  refine W_reg ?_
  simp [go_sem, ty36]
  refine callA (fun hG => pc_spec_l9Copy h (by omega)) (fun hG => by simp [go_sem]) rfl rfl ?_
  simp [go_sem, ty36]
  repeat refine tk ?_
  refine h2 _ ?_
  clear h2 K2
  refine W_seqK fun K3 h3 => ?_
  refine W_seqK fun K4 h4 => ?_
  refine W_reg ?_
  simp [go_sem, ty4, ty36]
  refine callA (fun hG => pc_spec_HartOk h (by omega)) (fun hG => by simp [go_sem]) rfl rfl ?_
  simp [go_sem, ty3, ty4, ty36]
  refine callA (fun hG => pc_spec_l1In got 0 65535) (fun hG => by simp [go_sem]) rfl rfl ?_
  simp [go_sem, ty4]
  repeat refine tk ?_
  refine h4 _ ?_
  clear h4 K4
  refine W_cond rfl (fun hb5 => ?_) fun hb5 => ?_
  · have hw : work h x got = (h, -1) := work_no (by simp [isW] at hb5 ⊢; grind)
    clear hb5
    refine W_seqK fun K6 h6 => ?_
    refine W_reg ?_
    simp [go_sem, ty3, ty36]
    repeat refine tk ?_
    refine h6 _ ?_
    clear h6 K6
    refine W_ret ?_
    first | (simp [go_sem, ty36, hw]; done) | (simp [go_sem, ty36, work, qg, qs, qw, qi, qa2, qb2, hw]; done) | omega
  · have q0 : hartOk h = true ∧ h.state = 0 ∧ isW got = true := by simp [isW] at hb5 ⊢; grind
    clear hb5
    obtain ⟨qg, qs, qw⟩ := q0
    obtain ⟨qw4, ql, qp, qst⟩ := hart_facts qg
    have qgot : 0 ≤ got ∧ got ≤ 65535 := by simpa [isW, inR] using qw
    have s5 : IntKind.wrap .i64 (h.pc + 1) = h.pc + 1 := wrap_ok (by omega) (by omega)
    refine W_skip ?_
    repeat refine tk ?_
    refine h3 _ ?_
    clear h3 K3
    refine W_seqK fun K7 h7 => ?_
    refine W_reg ?_
    simp [go_sem, ty3, s5]
    repeat refine tk ?_
    refine h7 _ ?_
    clear h7 K7
    refine W_seqK fun K8 h8 => ?_
    refine W_reg ?_
    simp [go_sem, ty3, ty36, s5]
    refine callA (fun hG => pc_spec_l9Address (h.pc + 1)) (fun hG => by simp [go_sem, s5]) rfl rfl ?_
    simp [go_sem, ty3, ty36, s5]
    repeat refine tk ?_
    refine h8 _ ?_
    clear h8 K8
    refine W_seqK fun K9 h9 => ?_
    refine W_seqK fun K10 h10 => ?_
    refine W_reg ?_
    simp [go_sem, ty4, ty68, s5]
    refine callA (fun hG => pc_spec_InsOk x) (fun hG => by simp [go_sem, s5]) rfl rfl ?_
    simp [go_sem, ty4, s5]
    repeat refine tk ?_
    refine h10 _ ?_
    clear h10 K10
    refine W_cond rfl (fun hb11 => ?_) fun hb11 => ?_
    · have qi : insOk x = false := by simpa using hb11
      have hw : work h x got = (⟨h.regs, h.pc, 2⟩, -1) := by unfold work; rw [if_pos ⟨qg, qs, qw⟩, if_neg (by simp [qi])]
      clear hb11
      refine W_seqK fun K12 h12 => ?_
      refine W_reg ?_
      simp [go_sem, ty3, ty36, s5]
      repeat refine tk ?_
      refine h12 _ ?_
      clear h12 K12
      refine W_seqK fun K13 h13 => ?_
      refine W_reg ?_
      simp [go_sem, ty3, ty36, s5]
      repeat refine tk ?_
      refine h13 _ ?_
      clear h13 K13
      refine W_seqK fun K14 h14 => ?_
      refine W_reg ?_
      simp [go_sem, ty3, ty36, s5]
      repeat refine tk ?_
      refine h14 _ ?_
      clear h14 K14
      refine W_ret ?_
      first | (simp [go_sem, ty36, hw]; done) | (simp [go_sem, ty36, work, qg, qs, qw, qi, qa2, qb2, hw]; done) | omega
    · have qi : insOk x = true := by simpa using hb11
      clear hb11
      obtain ⟨qop, qr, qa, qb, qn⟩ := insOk_range qi
      have qr1 : x.r < (h.regs.length : Int) := by omega
      have qr2 : x.r.toNat < h.regs.length := by omega
      have qr0 : 0 ≤ x.r := by omega
      have qa1 : x.a < (h.regs.length : Int) := by omega
      have qa2 : x.a.toNat < h.regs.length := by omega
      have qa0 : 0 ≤ x.a := by omega
      have qb1 : x.b < (h.regs.length : Int) := by omega
      have qb2 : x.b.toNat < h.regs.length := by omega
      have qb0 : 0 ≤ x.b := by omega
      have wA := wordsOk_get qw4 qa2
      have wB := wordsOk_get qw4 qb2
      have s1 : IntKind.wrap .i64 (h.regs[x.a.toNat] + h.regs[x.b.toNat]) = h.regs[x.a.toNat] + h.regs[x.b.toNat] := wrap_ok (by omega) (by omega)
      have s2 : IntKind.wrap .i64 (h.regs[x.a.toNat] - h.regs[x.b.toNat]) = h.regs[x.a.toNat] - h.regs[x.b.toNat] := wrap_ok (by omega) (by omega)
      have s3 : IntKind.wrap .i64 (h.regs[x.a.toNat] + x.n) = h.regs[x.a.toNat] + x.n := wrap_ok (by omega) (by omega)
      have s4 : IntKind.wrap .i64 (got + h.regs[x.b.toNat]) = got + h.regs[x.b.toNat] := wrap_ok (by omega) (by omega)
      refine W_skip ?_
      repeat refine tk ?_
      refine h9 _ ?_
      clear h9 K9
      refine W_seqK fun K15 h15 => ?_
      refine W_drawT true mixed (by decide +kernel) ?_
      simp [go_sem, ty3, ty22, ty36, ty68, s5, qa0, qa1, qa2, qb0, qb1, qb2, qr0, qr1, qr2, s1, s2, s3, s4, s5]
      repeat refine tk ?_
      refine h15 _ ?_
      clear h15 K15
      refine W_seqK fun K16 h16 => ?_
      refine W_seqK fun K17 h17 => ?_
      refine W_reg ?_
      simp [go_sem, ty3, ty68, s5, qa0, qa1, qa2, qb0, qb1, qb2, qr0, qr1, qr2, s1, s2, s3, s4, s5]
      repeat refine tk ?_
      refine h17 _ ?_
      clear h17 K17
      refine W_block ?_
      refine W_seqK fun K18 h18 => ?_
      refine W_reg ?_
      simp [go_sem, ty3, ty4, s5, qa0, qa1, qa2, qb0, qb1, qb2, qr0, qr1, qr2, s1, s2, s3, s4, s5]
      repeat refine tk ?_
      refine h18 _ ?_
      clear h18 K18
      refine W_cond rfl (fun hb19 => ?_) fun hb19 => ?_
      · have e1 : x.op = 1 := by simpa using hb19
        clear hb19
        refine W_reg ?_
        simp [go_sem, ty3, ty22, ty36, ty68, s5, qa0, qa1, qa2, qb0, qb1, qb2, qr0, qr1, qr2, s1, s2, s3, s4, s5]
        repeat refine tk ?_
        refine h16 _ ?_
        clear h16 K16
        refine W_seqK fun K20 h20 => ?_
        refine W_reg ?_
        simp [go_sem, ty3, ty36, s5, qa0, qa1, qa2, qb0, qb1, qb2, qr0, qr1, qr2, s1, s2, s3, s4, s5]
        repeat refine tk ?_
        refine h20 _ ?_
        clear h20 K20
        refine W_ret ?_
        first | (simp [go_sem, ty36, e1]; done) | (simp [go_sem, ty36, work, qg, qs, qw, qi, qa2, qb2, e1]; done) | omega
      · have e1 : ¬ x.op = 1 := by simpa using hb19
        clear hb19
        refine W_seqK fun K21 h21 => ?_
        refine W_reg ?_
        simp [go_sem, ty3, ty4, s5, qa0, qa1, qa2, qb0, qb1, qb2, qr0, qr1, qr2, s1, s2, s3, s4, s5]
        repeat refine tk ?_
        refine h21 _ ?_
        clear h21 K21
        refine W_cond rfl (fun hb22 => ?_) fun hb22 => ?_
        · have e2 : x.op = 2 := by simpa using hb22
          clear hb22
          refine W_drawT true mixed (by decide +kernel) ?_
          simp [go_sem, ty3, ty22, ty36, ty68, s5, qa0, qa1, qa2, qb0, qb1, qb2, qr0, qr1, qr2, s1, s2, s3, s4, s5]
          refine callA (fun hG => pc_spec_l9Word (h.regs[x.a.toNat] + h.regs[x.b.toNat])) (fun hG => by simp [go_sem, qa2, qb2, s1, s2, s3, s4, s5, qa0, qa1, qa2, qb0, qb1, qb2, qr0, qr1, qr2, s1, s2, s3, s4, s5]) rfl rfl ?_
          simp [go_sem, ty3, ty22, s5, qa0, qa1, qa2, qb0, qb1, qb2, qr0, qr1, qr2, s1, s2, s3, s4, s5]
          repeat refine tk ?_
          refine h16 _ ?_
          clear h16 K16
          refine W_seqK fun K23 h23 => ?_
          refine W_reg ?_
          simp [go_sem, ty3, ty36, s5, qa0, qa1, qa2, qb0, qb1, qb2, qr0, qr1, qr2, s1, s2, s3, s4, s5]
          repeat refine tk ?_
          refine h23 _ ?_
          clear h23 K23
          refine W_ret ?_
          first | (simp [go_sem, ty36, e1, e2]; done) | (simp [go_sem, ty36, work, qg, qs, qw, qi, qa2, qb2, e1, e2]; done) | omega
        · have e2 : ¬ x.op = 2 := by simpa using hb22
          clear hb22
          refine W_seqK fun K24 h24 => ?_
          refine W_reg ?_
          simp [go_sem, ty3, ty4, s5, qa0, qa1, qa2, qb0, qb1, qb2, qr0, qr1, qr2, s1, s2, s3, s4, s5]
          repeat refine tk ?_
          refine h24 _ ?_
          clear h24 K24
          refine W_cond rfl (fun hb25 => ?_) fun hb25 => ?_
          · have e10 : x.op = 10 := by simpa using hb25
            clear hb25
            refine W_drawT true mixed (by decide +kernel) ?_
            simp [go_sem, ty3, ty22, ty36, ty68, s5, qa0, qa1, qa2, qb0, qb1, qb2, qr0, qr1, qr2, s1, s2, s3, s4, s5]
            refine callA (fun hG => pc_spec_l9Word (h.regs[x.a.toNat] - h.regs[x.b.toNat])) (fun hG => by simp [go_sem, qa2, qb2, s1, s2, s3, s4, s5, qa0, qa1, qa2, qb0, qb1, qb2, qr0, qr1, qr2, s1, s2, s3, s4, s5]) rfl rfl ?_
            simp [go_sem, ty3, ty22, s5, qa0, qa1, qa2, qb0, qb1, qb2, qr0, qr1, qr2, s1, s2, s3, s4, s5]
            repeat refine tk ?_
            refine h16 _ ?_
            clear h16 K16
            refine W_seqK fun K26 h26 => ?_
            refine W_reg ?_
            simp [go_sem, ty3, ty36, s5, qa0, qa1, qa2, qb0, qb1, qb2, qr0, qr1, qr2, s1, s2, s3, s4, s5]
            repeat refine tk ?_
            refine h26 _ ?_
            clear h26 K26
            refine W_ret ?_
            first | (simp [go_sem, ty36, e1, e2, e10]; done) | (simp [go_sem, ty36, work, qg, qs, qw, qi, qa2, qb2, e1, e2, e10]; done) | omega
          · have e10 : ¬ x.op = 10 := by simpa using hb25
            clear hb25
            refine W_seqK fun K27 h27 => ?_
            refine W_reg ?_
            simp [go_sem, ty3, ty4, s5, qa0, qa1, qa2, qb0, qb1, qb2, qr0, qr1, qr2, s1, s2, s3, s4, s5]
            repeat refine tk ?_
            refine h27 _ ?_
            clear h27 K27
            refine W_cond rfl (fun hb28 => ?_) fun hb28 => ?_
            · have e3 : x.op = 3 := by simpa using hb28
              clear hb28
              refine W_drawT true mixed (by decide +kernel) ?_
              simp [go_sem, ty3, ty22, ty36, ty68, s5, qa0, qa1, qa2, qb0, qb1, qb2, qr0, qr1, qr2, s1, s2, s3, s4, s5]
              refine callA (fun hG => pc_spec_l9Word (h.regs[x.a.toNat] + x.n)) (fun hG => by simp [go_sem, qa2, qb2, s1, s2, s3, s4, s5, qa0, qa1, qa2, qb0, qb1, qb2, qr0, qr1, qr2, s1, s2, s3, s4, s5]) rfl rfl ?_
              simp [go_sem, ty3, ty22, s5, qa0, qa1, qa2, qb0, qb1, qb2, qr0, qr1, qr2, s1, s2, s3, s4, s5]
              repeat refine tk ?_
              refine h16 _ ?_
              clear h16 K16
              refine W_seqK fun K29 h29 => ?_
              refine W_reg ?_
              simp [go_sem, ty3, ty36, s5, qa0, qa1, qa2, qb0, qb1, qb2, qr0, qr1, qr2, s1, s2, s3, s4, s5]
              repeat refine tk ?_
              refine h29 _ ?_
              clear h29 K29
              refine W_ret ?_
              first | (simp [go_sem, ty36, e1, e2, e10, e3]; done) | (simp [go_sem, ty36, work, qg, qs, qw, qi, qa2, qb2, e1, e2, e10, e3]; done) | omega
            · have e3 : ¬ x.op = 3 := by simpa using hb28
              clear hb28
              refine W_seqK fun K30 h30 => ?_
              refine W_reg ?_
              simp [go_sem, ty3, ty4, s5, qa0, qa1, qa2, qb0, qb1, qb2, qr0, qr1, qr2, s1, s2, s3, s4, s5]
              repeat refine tk ?_
              refine h30 _ ?_
              clear h30 K30
              refine W_cond rfl (fun hb31 => ?_) fun hb31 => ?_
              · have e4 : x.op = 4 := by simpa using hb31
                clear hb31
                refine W_reg ?_
                simp [go_sem, ty3, ty22, ty36, ty68, s5, qa0, qa1, qa2, qb0, qb1, qb2, qr0, qr1, qr2, s1, s2, s3, s4, s5]
                repeat refine tk ?_
                refine h16 _ ?_
                clear h16 K16
                refine W_seqK fun K32 h32 => ?_
                refine W_reg ?_
                simp [go_sem, ty3, ty36, s5, qa0, qa1, qa2, qb0, qb1, qb2, qr0, qr1, qr2, s1, s2, s3, s4, s5]
                repeat refine tk ?_
                refine h32 _ ?_
                clear h32 K32
                refine W_ret ?_
                first | (simp [go_sem, ty36, e1, e2, e10, e3, e4]; done) | (simp [go_sem, ty36, work, qg, qs, qw, qi, qa2, qb2, e1, e2, e10, e3, e4]; done) | omega
              · have e4 : ¬ x.op = 4 := by simpa using hb31
                clear hb31
                refine W_seqK fun K33 h33 => ?_
                refine W_reg ?_
                simp [go_sem, ty3, ty4, s5, qa0, qa1, qa2, qb0, qb1, qb2, qr0, qr1, qr2, s1, s2, s3, s4, s5]
                repeat refine tk ?_
                refine h33 _ ?_
                clear h33 K33
                refine W_cond rfl (fun hb34 => ?_) fun hb34 => ?_
                · have e5 : x.op = 5 := by simpa using hb34
                  clear hb34
                  refine W_reg ?_
                  simp [go_sem, ty3, s5, qa0, qa1, qa2, qb0, qb1, qb2, qr0, qr1, qr2, s1, s2, s3, s4, s5]
                  repeat refine tk ?_
                  refine h16 _ ?_
                  clear h16 K16
                  refine W_seqK fun K35 h35 => ?_
                  refine W_reg ?_
                  simp [go_sem, ty3, ty36, s5, qa0, qa1, qa2, qb0, qb1, qb2, qr0, qr1, qr2, s1, s2, s3, s4, s5]
                  repeat refine tk ?_
                  refine h35 _ ?_
                  clear h35 K35
                  refine W_ret ?_
                  first | (simp [go_sem, ty36, e1, e2, e10, e3, e4, e5]; done) | (simp [go_sem, ty36, work, qg, qs, qw, qi, qa2, qb2, e1, e2, e10, e3, e4, e5]; done) | omega
                · have e5 : ¬ x.op = 5 := by simpa using hb34
                  clear hb34
                  refine W_seqK fun K36 h36 => ?_
                  refine W_reg ?_
                  simp [go_sem, ty3, ty4, s5, qa0, qa1, qa2, qb0, qb1, qb2, qr0, qr1, qr2, s1, s2, s3, s4, s5]
                  repeat refine tk ?_
                  refine h36 _ ?_
                  clear h36 K36
                  refine W_cond rfl (fun hb37 => ?_) fun hb37 => ?_
                  · have e6 : x.op = 6 := by simpa using hb37
                    clear hb37
                    refine W_seqK fun K38 h38 => ?_
                    refine W_reg ?_
                    simp [go_sem, ty3, ty22, ty36, ty68, s5, qa0, qa1, qa2, qb0, qb1, qb2, qr0, qr1, qr2, s1, s2, s3, s4, s5]
                    repeat refine tk ?_
                    refine h38 _ ?_
                    clear h38 K38
                    refine W_reg ?_
                    simp [go_sem, ty3, s5, qa0, qa1, qa2, qb0, qb1, qb2, qr0, qr1, qr2, s1, s2, s3, s4, s5]
                    refine callA (fun hG => pc_spec_l9Word (got + h.regs[x.b.toNat])) (fun hG => by simp [go_sem, qa2, qb2, s1, s2, s3, s4, s5, qa0, qa1, qa2, qb0, qb1, qb2, qr0, qr1, qr2, s1, s2, s3, s4, s5]) rfl rfl ?_
                    simp [go_sem, ty3, s5, qa0, qa1, qa2, qb0, qb1, qb2, qr0, qr1, qr2, s1, s2, s3, s4, s5]
                    repeat refine tk ?_
                    refine h16 _ ?_
                    clear h16 K16
                    refine W_seqK fun K39 h39 => ?_
                    refine W_reg ?_
                    simp [go_sem, ty3, ty36, s5, qa0, qa1, qa2, qb0, qb1, qb2, qr0, qr1, qr2, s1, s2, s3, s4, s5]
                    repeat refine tk ?_
                    refine h39 _ ?_
                    clear h39 K39
                    refine W_ret ?_
                    first | (simp [go_sem, ty36, e1, e2, e10, e3, e4, e5, e6]; done) | (simp [go_sem, ty36, work, qg, qs, qw, qi, qa2, qb2, e1, e2, e10, e3, e4, e5, e6]; done) | omega
                  · have e6 : ¬ x.op = 6 := by simpa using hb37
                    clear hb37
                    refine W_seqK fun K40 h40 => ?_
                    refine W_reg ?_
                    simp [go_sem, ty3, ty4, s5, qa0, qa1, qa2, qb0, qb1, qb2, qr0, qr1, qr2, s1, s2, s3, s4, s5]
                    repeat refine tk ?_
                    refine h40 _ ?_
                    clear h40 K40
                    refine W_cond rfl (fun hb41 => ?_) fun hb41 => ?_
                    · have e7 : x.op = 7 := by simpa using hb41
                      clear hb41
                      refine W_seqK fun K42 h42 => ?_
                      refine W_reg ?_
                      simp [go_sem, ty3, ty4, s5, qa0, qa1, qa2, qb0, qb1, qb2, qr0, qr1, qr2, s1, s2, s3, s4, s5]
                      repeat refine tk ?_
                      refine h42 _ ?_
                      clear h42 K42
                      refine W_cond rfl (fun hb43 => ?_) fun hb43 => ?_
                      · have ez : h.regs[x.a.toNat] = 0 := by simpa using hb43
                        clear hb43
                        refine W_reg ?_
                        simp [go_sem, ty3, ty68, s5, qa0, qa1, qa2, qb0, qb1, qb2, qr0, qr1, qr2, s1, s2, s3, s4, s5]
                        refine callA (fun hG => pc_spec_l9Address x.n) (fun hG => by simp [go_sem, s5, qa0, qa1, qa2, qb0, qb1, qb2, qr0, qr1, qr2, s1, s2, s3, s4, s5]) rfl rfl ?_
                        simp [go_sem, ty3, ty36, s5, qa0, qa1, qa2, qb0, qb1, qb2, qr0, qr1, qr2, s1, s2, s3, s4, s5]
                        repeat refine tk ?_
                        refine h16 _ ?_
                        clear h16 K16
                        refine W_seqK fun K44 h44 => ?_
                        refine W_reg ?_
                        simp [go_sem, ty3, ty36, s5, qa0, qa1, qa2, qb0, qb1, qb2, qr0, qr1, qr2, s1, s2, s3, s4, s5]
                        repeat refine tk ?_
                        refine h44 _ ?_
                        clear h44 K44
                        refine W_ret ?_
                        first | (simp [go_sem, ty36, e1, e2, e10, e3, e4, e5, e6, e7, ez]; done) | (simp [go_sem, ty36, work, qg, qs, qw, qi, qa2, qb2, e1, e2, e10, e3, e4, e5, e6, e7, ez]; done) | omega
                      · have ez : ¬ h.regs[x.a.toNat] = 0 := by simpa using hb43
                        clear hb43
                        refine W_skip ?_
                        repeat refine tk ?_
                        refine h16 _ ?_
                        clear h16 K16
                        refine W_seqK fun K45 h45 => ?_
                        refine W_reg ?_
                        simp [go_sem, ty3, ty36, s5, qa0, qa1, qa2, qb0, qb1, qb2, qr0, qr1, qr2, s1, s2, s3, s4, s5]
                        repeat refine tk ?_
                        refine h45 _ ?_
                        clear h45 K45
                        refine W_ret ?_
                        first | (simp [go_sem, ty36, e1, e2, e10, e3, e4, e5, e6, e7, ez]; done) | (simp [go_sem, ty36, work, qg, qs, qw, qi, qa2, qb2, e1, e2, e10, e3, e4, e5, e6, e7, ez]; done) | omega
                    · have e7 : ¬ x.op = 7 := by simpa using hb41
                      clear hb41
                      refine W_seqK fun K46 h46 => ?_
                      refine W_reg ?_
                      simp [go_sem, ty3, ty4, s5, qa0, qa1, qa2, qb0, qb1, qb2, qr0, qr1, qr2, s1, s2, s3, s4, s5]
                      repeat refine tk ?_
                      refine h46 _ ?_
                      clear h46 K46
                      refine W_cond rfl (fun hb47 => ?_) fun hb47 => ?_
                      · have e8 : x.op = 8 := by simpa using hb47
                        clear hb47
                        refine W_reg ?_
                        simp [go_sem, ty3, ty68, s5, qa0, qa1, qa2, qb0, qb1, qb2, qr0, qr1, qr2, s1, s2, s3, s4, s5]
                        refine callA (fun hG => pc_spec_l9Address x.n) (fun hG => by simp [go_sem, s5, qa0, qa1, qa2, qb0, qb1, qb2, qr0, qr1, qr2, s1, s2, s3, s4, s5]) rfl rfl ?_
                        simp [go_sem, ty3, ty36, s5, qa0, qa1, qa2, qb0, qb1, qb2, qr0, qr1, qr2, s1, s2, s3, s4, s5]
                        repeat refine tk ?_
                        refine h16 _ ?_
                        clear h16 K16
                        refine W_seqK fun K48 h48 => ?_
                        refine W_reg ?_
                        simp [go_sem, ty3, ty36, s5, qa0, qa1, qa2, qb0, qb1, qb2, qr0, qr1, qr2, s1, s2, s3, s4, s5]
                        repeat refine tk ?_
                        refine h48 _ ?_
                        clear h48 K48
                        refine W_ret ?_
                        first | (simp [go_sem, ty36, e1, e2, e10, e3, e4, e5, e6, e7, e8]; done) | (simp [go_sem, ty36, work, qg, qs, qw, qi, qa2, qb2, e1, e2, e10, e3, e4, e5, e6, e7, e8]; done) | omega
                      · have e8 : ¬ x.op = 8 := by simpa using hb47
                        clear hb47
                        refine W_seqK fun K49 h49 => ?_
                        refine W_reg ?_
                        simp [go_sem, ty3, ty4, s5, qa0, qa1, qa2, qb0, qb1, qb2, qr0, qr1, qr2, s1, s2, s3, s4, s5]
                        repeat refine tk ?_
                        refine h49 _ ?_
                        clear h49 K49
                        refine W_cond rfl (fun hb50 => ?_) fun hb50 => ?_
                        · have e9 : x.op = 9 := by simpa using hb50
                          clear hb50
                          refine W_seqK fun K51 h51 => ?_
                          refine W_reg ?_
                          simp [go_sem, ty3, ty36, s5, qa0, qa1, qa2, qb0, qb1, qb2, qr0, qr1, qr2, s1, s2, s3, s4, s5]
                          repeat refine tk ?_
                          refine h51 _ ?_
                          clear h51 K51
                          refine W_reg ?_
                          simp [go_sem, ty3, ty36, s5, qa0, qa1, qa2, qb0, qb1, qb2, qr0, qr1, qr2, s1, s2, s3, s4, s5]
                          repeat refine tk ?_
                          refine h16 _ ?_
                          clear h16 K16
                          refine W_seqK fun K52 h52 => ?_
                          refine W_reg ?_
                          simp [go_sem, ty3, ty36, s5, qa0, qa1, qa2, qb0, qb1, qb2, qr0, qr1, qr2, s1, s2, s3, s4, s5]
                          repeat refine tk ?_
                          refine h52 _ ?_
                          clear h52 K52
                          refine W_ret ?_
                          first | (simp [go_sem, ty36, e1, e2, e10, e3, e4, e5, e6, e7, e8, e9]; done) | (simp [go_sem, ty36, work, qg, qs, qw, qi, qa2, qb2, e1, e2, e10, e3, e4, e5, e6, e7, e8, e9]; done) | omega
                        · have e9 : ¬ x.op = 9 := by simpa using hb50
                          clear hb50
                          refine W_skip ?_
                          repeat refine tk ?_
                          refine h16 _ ?_
                          clear h16 K16
                          refine W_seqK fun K53 h53 => ?_
                          refine W_reg ?_
                          simp [go_sem, ty3, ty36, s5, qa0, qa1, qa2, qb0, qb1, qb2, qr0, qr1, qr2, s1, s2, s3, s4, s5]
                          repeat refine tk ?_
                          refine h53 _ ?_
                          clear h53 K53
                          refine W_ret ?_
                          first | (simp [go_sem, ty36, e1, e2, e10, e3, e4, e5, e6, e7, e8, e9]; done) | (simp [go_sem, ty36, work, qg, qs, qw, qi, qa2, qb2, e1, e2, e10, e3, e4, e5, e6, e7, e8, e9]; done) | omega
end Go.Tw
