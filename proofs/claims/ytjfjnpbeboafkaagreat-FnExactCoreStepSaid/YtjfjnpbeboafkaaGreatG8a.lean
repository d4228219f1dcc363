/- Walks of functions: spec.l1In, impl.from, (*impl.Ins).place, impl.form, slices.Clone[[]int,int], slices.Clone[[]bool,bool], slices.Clone[[]impl.Receiver,impl.Receiver], slices.Clone[[]impl.Wait,impl.Wait], slices.Clone[[]impl.Ins,impl.Ins], slices.IndexFunc[[]int,int], slices.ContainsFunc[[]int,int], impl.isWord, impl.isCell, impl.wordsOk$1, impl.wordsOk, spec.l1Words, impl.copyMsg, spec.l1Msg -/
import Derived.Test.YtjfjnpbeboafkaaGreatR8Ty
set_option linter.unusedSimpArgs false
set_option linter.unusedVariables false
set_option linter.unnecessarySimpa false
namespace Go.Tw
open Go.Proofs

set_option maxRecDepth 100000 in
set_option maxHeartbeats 4000000 in
theorem pc_spec_l1In (x : Int) (lo : Int) (hi : Int)  : PC Tryz.prog 87 [(false, [.int .i64 x]), (false, [.int .i64 lo]), (false, [.int .i64 hi])] [(false, [.bool (inR x lo hi)])] := by
  refine PC_of (n := 15) Tryz.func87 rfl rfl rfl rfl (by simp) ?_
  refine W_seqK fun K1 h1 => ?_
  refine W_reg ?_
  simp [go_sem, ty4]
  repeat refine tk ?_
  refine h1 _ ?_
  clear h1 K1
  refine W_seqK fun K2 h2 => ?_
  refine W_reg ?_
  simp [go_sem, ty3, ty4]
  repeat refine tk ?_
  refine h2 _ ?_
  clear h2 K2
  refine W_ret ?_
  simp [go_sem, inR]

set_option maxRecDepth 100000 in
set_option maxHeartbeats 4000000 in
theorem pc_impl_from (x : Int) (lo : Int) (hi : Int)  : PC Tryz.prog 173 [(false, [.int .i64 x]), (false, [.int .i64 lo]), (false, [.int .i64 hi])] [(false, [.bool (inR x lo hi)])] := by
  refine PC_of (n := 15) Tryz.func173 rfl rfl rfl rfl (by simp) ?_
  refine W_seqK fun K1 h1 => ?_
  refine W_reg ?_
  simp [go_sem, ty4]
  repeat refine tk ?_
  refine h1 _ ?_
  clear h1 K1
  refine W_seqK fun K2 h2 => ?_
  refine W_reg ?_
  simp [go_sem, ty3, ty4]
  repeat refine tk ?_
  refine h2 _ ?_
  clear h2 K2
  refine W_ret ?_
  simp [go_sem, inR]

set_option maxRecDepth 100000 in
set_option maxHeartbeats 4000000 in
theorem q_place {σ : St} {b : Nat} {c : Int} {K : St → V → Prop} (hK : K σ (.l (.ptr b (offL c)))) : CallW Tryz.prog false 182 [.l (.ptr b 0), .l (.t (.int .u8 c))] K σ := by
  refine CallW_inline (n := 24) Tryz.func182 rfl rfl rfl rfl (by simp) fun a => ?_
  refine W_seqK fun K1 h1 => ?_
  refine W_reg ?_
  simp [go_sem]
  repeat refine tk ?_
  refine h1 _ ?_
  clear h1 K1
  refine W_seqK fun K2 h2 => ?_
  refine W_seqK fun K3 h3 => ?_
  refine W_reg ?_
  simp [go_sem, ty5]
  repeat refine tk ?_
  refine h3 _ ?_
  clear h3 K3
  refine W_block ?_
  refine W_seqK fun K4 h4 => ?_
  refine W_reg ?_
  simp [go_sem, ty4, ty5]
  repeat refine tk ?_
  refine h4 _ ?_
  clear h4 K4
  refine W_cond rfl (fun hb5 => ?_) fun hb5 => ?_
  · have q82 : c = 82 := by simpa using hb5
    clear hb5
    refine W_seqK fun K6 h6 => ?_
    refine W_reg ?_
    simp [go_sem, ty68]
    repeat refine tk ?_
    refine h6 _ ?_
    clear h6 K6
    refine W_ret ?_
    have ho : offL c = 1 := by simp [offL, q82]
    rw [ho] at hK
    simp [go_sem]
    exact ⟨_, _, ⟨rfl, rfl⟩, hK⟩
  · have q82 : c ≠ 82 := by simpa using hb5
    clear hb5
    refine W_seqK fun K7 h7 => ?_
    refine W_reg ?_
    simp [go_sem, ty4, ty5]
    repeat refine tk ?_
    refine h7 _ ?_
    clear h7 K7
    refine W_cond rfl (fun hb8 => ?_) fun hb8 => ?_
    · have q65 : c = 65 := by simpa using hb8
      clear hb8
      refine W_seqK fun K9 h9 => ?_
      refine W_reg ?_
      simp [go_sem, ty68]
      repeat refine tk ?_
      refine h9 _ ?_
      clear h9 K9
      refine W_ret ?_
      have ho : offL c = 2 := by simp [offL, q65]
      rw [ho] at hK
      simp [go_sem]
      exact ⟨_, _, ⟨rfl, rfl⟩, hK⟩
    · have q65 : c ≠ 65 := by simpa using hb8
      clear hb8
      refine W_seqK fun K10 h10 => ?_
      refine W_reg ?_
      simp [go_sem, ty4, ty5]
      repeat refine tk ?_
      refine h10 _ ?_
      clear h10 K10
      refine W_cond rfl (fun hb11 => ?_) fun hb11 => ?_
      · have q66 : c = 66 := by simpa using hb11
        clear hb11
        refine W_seqK fun K12 h12 => ?_
        refine W_reg ?_
        simp [go_sem, ty68]
        repeat refine tk ?_
        refine h12 _ ?_
        clear h12 K12
        refine W_ret ?_
        have ho : offL c = 3 := by simp [offL, q66]
        rw [ho] at hK
        simp [go_sem]
        exact ⟨_, _, ⟨rfl, rfl⟩, hK⟩
      · have q66 : c ≠ 66 := by simpa using hb11
        clear hb11
        refine W_skip ?_
        repeat refine tk ?_
        refine h2 _ ?_
        clear h2 K2
        refine W_seqK fun K13 h13 => ?_
        refine W_reg ?_
        simp [go_sem, ty68]
        repeat refine tk ?_
        refine h13 _ ?_
        clear h13 K13
        refine W_ret ?_
        have ho : offL c = 4 := by simp [offL, q82, q65, q66]
        rw [ho] at hK
        simp [go_sem]
        exact ⟨_, _, ⟨rfl, rfl⟩, hK⟩

set_option maxRecDepth 100000 in
set_option maxHeartbeats 4000000 in
theorem pc_impl_form (op : Int)  : PC Tryz.prog 181 [(false, [.int .i64 op])] [(false, [.str (formS op)]), (false, [.bool (formOk op)])] := by
  refine PC_of (n := 23) Tryz.func181 rfl rfl rfl rfl (by simp) ?_
  refine W_seqK fun K1 h1 => ?_
  refine W_reg ?_
  simp [go_sem, ty4, ty9]
  repeat refine tk ?_
  refine h1 _ ?_
  clear h1 K1
  refine W_seqK fun K2 h2 => ?_
  refine W_seqK fun K3 h3 => ?_
  refine W_reg ?_
  simp [go_sem, ty3]
  repeat refine tk ?_
  refine h3 _ ?_
  clear h3 K3
  refine W_block ?_
  refine W_seqK fun K4 h4 => ?_
  refine W_reg ?_
  simp [go_sem, ty3, ty4]
  repeat refine tk ?_
  refine h4 _ ?_
  clear h4 K4
  refine W_cond rfl (fun hb5 => ?_) fun hb5 => ?_
  · try simp at hb5
    refine W_seqK fun K6 h6 => ?_
    refine W_reg ?_
    simp [go_sem, ty4, ty9]
    repeat refine tk ?_
    refine h6 _ ?_
    clear h6 K6
    refine W_ret ?_
    first | (simp [go_sem, formS, formOk, inR, hb5]; done) | omega | (simp [go_sem, formS, formOk, inR, hb5]; omega)
  · try simp at hb5
    refine W_seqK fun K7 h7 => ?_
    refine W_seqK fun K8 h8 => ?_
    refine W_reg ?_
    simp [go_sem, ty3, ty4]
    repeat refine tk ?_
    refine h8 _ ?_
    clear h8 K8
    refine W_cond rfl (fun hb9 => ?_) fun hb9 => ?_
    · try simp at hb9
      refine W_skip ?_
      repeat refine tk ?_
      refine h7 _ ?_
      clear h7 K7
      refine W_cond rfl (fun hb10 => ?_) fun hb10 => ?_
      · try simp at hb10
        refine W_seqK fun K11 h11 => ?_
        refine W_reg ?_
        simp [go_sem, ty4, ty9]
        repeat refine tk ?_
        refine h11 _ ?_
        clear h11 K11
        refine W_ret ?_
        first | (simp [go_sem, formS, formOk, inR, hb5, hb9, hb10]; done) | omega | (simp [go_sem, formS, formOk, inR, hb5, hb9, hb10]; omega)
      · try simp at hb10
        refine W_seqK fun K12 h12 => ?_
        refine W_seqK fun K13 h13 => ?_
        refine W_reg ?_
        simp [go_sem, ty3, ty4]
        repeat refine tk ?_
        refine h13 _ ?_
        clear h13 K13
        refine W_cond rfl (fun hb14 => ?_) fun hb14 => ?_
        · try simp at hb14
          refine W_skip ?_
          repeat refine tk ?_
          refine h12 _ ?_
          clear h12 K12
          refine W_cond rfl (fun hb15 => ?_) fun hb15 => ?_
          · try simp at hb15
            refine W_seqK fun K16 h16 => ?_
            refine W_reg ?_
            simp [go_sem, ty4, ty9]
            repeat refine tk ?_
            refine h16 _ ?_
            clear h16 K16
            refine W_ret ?_
            first | (simp [go_sem, formS, formOk, inR, hb5, hb9, hb10, hb14, hb15]; done) | omega | (simp [go_sem, formS, formOk, inR, hb5, hb9, hb10, hb14, hb15]; omega)
          · try simp at hb15
            refine W_seqK fun K17 h17 => ?_
            refine W_reg ?_
            simp [go_sem, ty3, ty4]
            repeat refine tk ?_
            refine h17 _ ?_
            clear h17 K17
            refine W_cond rfl (fun hb18 => ?_) fun hb18 => ?_
            · try simp at hb18
              refine W_seqK fun K19 h19 => ?_
              refine W_reg ?_
              simp [go_sem, ty4, ty9]
              repeat refine tk ?_
              refine h19 _ ?_
              clear h19 K19
              refine W_ret ?_
              first | (simp [go_sem, formS, formOk, inR, hb5, hb9, hb10, hb14, hb15, hb18]; done) | omega | (simp [go_sem, formS, formOk, inR, hb5, hb9, hb10, hb14, hb15, hb18]; omega)
            · try simp at hb18
              refine W_seqK fun K20 h20 => ?_
              refine W_reg ?_
              simp [go_sem, ty3, ty4]
              repeat refine tk ?_
              refine h20 _ ?_
              clear h20 K20
              refine W_cond rfl (fun hb21 => ?_) fun hb21 => ?_
              · try simp at hb21
                refine W_seqK fun K22 h22 => ?_
                refine W_reg ?_
                simp [go_sem, ty4, ty9]
                repeat refine tk ?_
                refine h22 _ ?_
                clear h22 K22
                refine W_ret ?_
                first | (simp [go_sem, formS, formOk, inR, hb5, hb9, hb10, hb14, hb15, hb18, hb21]; done) | omega | (simp [go_sem, formS, formOk, inR, hb5, hb9, hb10, hb14, hb15, hb18, hb21]; omega)
              · try simp at hb21
                refine W_seqK fun K23 h23 => ?_
                refine W_reg ?_
                simp [go_sem, ty3, ty4]
                repeat refine tk ?_
                refine h23 _ ?_
                clear h23 K23
                refine W_cond rfl (fun hb24 => ?_) fun hb24 => ?_
                · try simp at hb24
                  refine W_seqK fun K25 h25 => ?_
                  refine W_reg ?_
                  simp [go_sem, ty4, ty9]
                  repeat refine tk ?_
                  refine h25 _ ?_
                  clear h25 K25
                  refine W_ret ?_
                  first | (simp [go_sem, formS, formOk, inR, hb5, hb9, hb10, hb14, hb15, hb18, hb21, hb24]; done) | omega | (simp [go_sem, formS, formOk, inR, hb5, hb9, hb10, hb14, hb15, hb18, hb21, hb24]; omega)
                · try simp at hb24
                  refine W_seqK fun K26 h26 => ?_
                  refine W_reg ?_
                  simp [go_sem, ty3, ty4]
                  repeat refine tk ?_
                  refine h26 _ ?_
                  clear h26 K26
                  refine W_cond rfl (fun hb27 => ?_) fun hb27 => ?_
                  · try simp at hb27
                    refine W_seqK fun K28 h28 => ?_
                    refine W_reg ?_
                    simp [go_sem, ty4, ty9]
                    repeat refine tk ?_
                    refine h28 _ ?_
                    clear h28 K28
                    refine W_ret ?_
                    first | (simp [go_sem, formS, formOk, inR, hb5, hb9, hb10, hb14, hb15, hb18, hb21, hb24, hb27]; done) | omega | (simp [go_sem, formS, formOk, inR, hb5, hb9, hb10, hb14, hb15, hb18, hb21, hb24, hb27]; omega)
                  · try simp at hb27
                    refine W_seqK fun K29 h29 => ?_
                    refine W_reg ?_
                    simp [go_sem, ty3, ty4]
                    repeat refine tk ?_
                    refine h29 _ ?_
                    clear h29 K29
                    refine W_cond rfl (fun hb30 => ?_) fun hb30 => ?_
                    · try simp at hb30
                      refine W_seqK fun K31 h31 => ?_
                      refine W_reg ?_
                      simp [go_sem, ty4, ty9]
                      repeat refine tk ?_
                      refine h31 _ ?_
                      clear h31 K31
                      refine W_ret ?_
                      first | (simp [go_sem, formS, formOk, inR, hb5, hb9, hb10, hb14, hb15, hb18, hb21, hb24, hb27, hb30]; done) | omega | (simp [go_sem, formS, formOk, inR, hb5, hb9, hb10, hb14, hb15, hb18, hb21, hb24, hb27, hb30]; omega)
                    · try simp at hb30
                      refine W_skip ?_
                      repeat refine tk ?_
                      refine h2 _ ?_
                      clear h2 K2
                      refine W_seqK fun K32 h32 => ?_
                      refine W_reg ?_
                      simp [go_sem, ty4, ty9]
                      repeat refine tk ?_
                      refine h32 _ ?_
                      clear h32 K32
                      refine W_ret ?_
                      first | (simp [go_sem, formS, formOk, inR, hb5, hb9, hb10, hb14, hb15, hb18, hb21, hb24, hb27, hb30]; done) | omega | (simp [go_sem, formS, formOk, inR, hb5, hb9, hb10, hb14, hb15, hb18, hb21, hb24, hb27, hb30]; omega)
        · try simp at hb14
          refine W_reg ?_
          simp [go_sem, ty3, ty4]
          repeat refine tk ?_
          refine h12 _ ?_
          clear h12 K12
          refine W_cond rfl (fun hb33 => ?_) fun hb33 => ?_
          · try simp at hb33
            refine W_seqK fun K34 h34 => ?_
            refine W_reg ?_
            simp [go_sem, ty4, ty9]
            repeat refine tk ?_
            refine h34 _ ?_
            clear h34 K34
            refine W_ret ?_
            first | (simp [go_sem, formS, formOk, inR, hb5, hb9, hb10, hb14, hb33]; done) | omega | (simp [go_sem, formS, formOk, inR, hb5, hb9, hb10, hb14, hb33]; omega)
          · try simp at hb33
            refine W_seqK fun K35 h35 => ?_
            refine W_reg ?_
            simp [go_sem, ty3, ty4]
            repeat refine tk ?_
            refine h35 _ ?_
            clear h35 K35
            refine W_cond rfl (fun hb36 => ?_) fun hb36 => ?_
            · try simp at hb36
              refine W_seqK fun K37 h37 => ?_
              refine W_reg ?_
              simp [go_sem, ty4, ty9]
              repeat refine tk ?_
              refine h37 _ ?_
              clear h37 K37
              refine W_ret ?_
              first | (simp [go_sem, formS, formOk, inR, hb5, hb9, hb10, hb14, hb33, hb36]; done) | omega | (simp [go_sem, formS, formOk, inR, hb5, hb9, hb10, hb14, hb33, hb36]; omega)
            · try simp at hb36
              refine W_seqK fun K38 h38 => ?_
              refine W_reg ?_
              simp [go_sem, ty3, ty4]
              repeat refine tk ?_
              refine h38 _ ?_
              clear h38 K38
              refine W_cond rfl (fun hb39 => ?_) fun hb39 => ?_
              · try simp at hb39
                refine W_seqK fun K40 h40 => ?_
                refine W_reg ?_
                simp [go_sem, ty4, ty9]
                repeat refine tk ?_
                refine h40 _ ?_
                clear h40 K40
                refine W_ret ?_
                first | (simp [go_sem, formS, formOk, inR, hb5, hb9, hb10, hb14, hb33, hb36, hb39]; done) | omega | (simp [go_sem, formS, formOk, inR, hb5, hb9, hb10, hb14, hb33, hb36, hb39]; omega)
              · try simp at hb39
                refine W_seqK fun K41 h41 => ?_
                refine W_reg ?_
                simp [go_sem, ty3, ty4]
                repeat refine tk ?_
                refine h41 _ ?_
                clear h41 K41
                refine W_cond rfl (fun hb42 => ?_) fun hb42 => ?_
                · try simp at hb42
                  refine W_seqK fun K43 h43 => ?_
                  refine W_reg ?_
                  simp [go_sem, ty4, ty9]
                  repeat refine tk ?_
                  refine h43 _ ?_
                  clear h43 K43
                  refine W_ret ?_
                  first | (simp [go_sem, formS, formOk, inR, hb5, hb9, hb10, hb14, hb33, hb36, hb39, hb42]; done) | omega | (simp [go_sem, formS, formOk, inR, hb5, hb9, hb10, hb14, hb33, hb36, hb39, hb42]; omega)
                · try simp at hb42
                  refine W_seqK fun K44 h44 => ?_
                  refine W_reg ?_
                  simp [go_sem, ty3, ty4]
                  repeat refine tk ?_
                  refine h44 _ ?_
                  clear h44 K44
                  refine W_cond rfl (fun hb45 => ?_) fun hb45 => ?_
                  · try simp at hb45
                    refine W_seqK fun K46 h46 => ?_
                    refine W_reg ?_
                    simp [go_sem, ty4, ty9]
                    repeat refine tk ?_
                    refine h46 _ ?_
                    clear h46 K46
                    refine W_ret ?_
                    first | (simp [go_sem, formS, formOk, inR, hb5, hb9, hb10, hb14, hb33, hb36, hb39, hb42, hb45]; done) | omega | (simp [go_sem, formS, formOk, inR, hb5, hb9, hb10, hb14, hb33, hb36, hb39, hb42, hb45]; omega)
                  · try simp at hb45
                    refine W_seqK fun K47 h47 => ?_
                    refine W_reg ?_
                    simp [go_sem, ty3, ty4]
                    repeat refine tk ?_
                    refine h47 _ ?_
                    clear h47 K47
                    refine W_cond rfl (fun hb48 => ?_) fun hb48 => ?_
                    · try simp at hb48
                      refine W_seqK fun K49 h49 => ?_
                      refine W_reg ?_
                      simp [go_sem, ty4, ty9]
                      repeat refine tk ?_
                      refine h49 _ ?_
                      clear h49 K49
                      refine W_ret ?_
                      first | (simp [go_sem, formS, formOk, inR, hb5, hb9, hb10, hb14, hb33, hb36, hb39, hb42, hb45, hb48]; done) | omega | (simp [go_sem, formS, formOk, inR, hb5, hb9, hb10, hb14, hb33, hb36, hb39, hb42, hb45, hb48]; omega)
                    · try simp at hb48
                      refine W_skip ?_
                      repeat refine tk ?_
                      refine h2 _ ?_
                      clear h2 K2
                      refine W_seqK fun K50 h50 => ?_
                      refine W_reg ?_
                      simp [go_sem, ty4, ty9]
                      repeat refine tk ?_
                      refine h50 _ ?_
                      clear h50 K50
                      refine W_ret ?_
                      first | (simp [go_sem, formS, formOk, inR, hb5, hb9, hb10, hb14, hb33, hb36, hb39, hb42, hb45, hb48]; done) | omega | (simp [go_sem, formS, formOk, inR, hb5, hb9, hb10, hb14, hb33, hb36, hb39, hb42, hb45, hb48]; omega)
    · try simp at hb9
      refine W_reg ?_
      simp [go_sem, ty3, ty4]
      repeat refine tk ?_
      refine h7 _ ?_
      clear h7 K7
      refine W_cond rfl (fun hb51 => ?_) fun hb51 => ?_
      · try simp at hb51
        refine W_seqK fun K52 h52 => ?_
        refine W_reg ?_
        simp [go_sem, ty4, ty9]
        repeat refine tk ?_
        refine h52 _ ?_
        clear h52 K52
        refine W_ret ?_
        first | (simp [go_sem, formS, formOk, inR, hb5, hb9, hb51]; done) | omega | (simp [go_sem, formS, formOk, inR, hb5, hb9, hb51]; omega)
      · try simp at hb51
        refine W_seqK fun K53 h53 => ?_
        refine W_seqK fun K54 h54 => ?_
        refine W_reg ?_
        simp [go_sem, ty3, ty4]
        repeat refine tk ?_
        refine h54 _ ?_
        clear h54 K54
        refine W_cond rfl (fun hb55 => ?_) fun hb55 => ?_
        · try simp at hb55
          refine W_skip ?_
          repeat refine tk ?_
          refine h53 _ ?_
          clear h53 K53
          refine W_cond rfl (fun hb56 => ?_) fun hb56 => ?_
          · try simp at hb56
            refine W_seqK fun K57 h57 => ?_
            refine W_reg ?_
            simp [go_sem, ty4, ty9]
            repeat refine tk ?_
            refine h57 _ ?_
            clear h57 K57
            refine W_ret ?_
            first | (simp [go_sem, formS, formOk, inR, hb5, hb9, hb51, hb55, hb56]; done) | omega | (simp [go_sem, formS, formOk, inR, hb5, hb9, hb51, hb55, hb56]; omega)
          · try simp at hb56
            refine W_seqK fun K58 h58 => ?_
            refine W_reg ?_
            simp [go_sem, ty3, ty4]
            repeat refine tk ?_
            refine h58 _ ?_
            clear h58 K58
            refine W_cond rfl (fun hb59 => ?_) fun hb59 => ?_
            · try simp at hb59
              refine W_seqK fun K60 h60 => ?_
              refine W_reg ?_
              simp [go_sem, ty4, ty9]
              repeat refine tk ?_
              refine h60 _ ?_
              clear h60 K60
              refine W_ret ?_
              first | (simp [go_sem, formS, formOk, inR, hb5, hb9, hb51, hb55, hb56, hb59]; done) | omega | (simp [go_sem, formS, formOk, inR, hb5, hb9, hb51, hb55, hb56, hb59]; omega)
            · try simp at hb59
              refine W_seqK fun K61 h61 => ?_
              refine W_reg ?_
              simp [go_sem, ty3, ty4]
              repeat refine tk ?_
              refine h61 _ ?_
              clear h61 K61
              refine W_cond rfl (fun hb62 => ?_) fun hb62 => ?_
              · try simp at hb62
                refine W_seqK fun K63 h63 => ?_
                refine W_reg ?_
                simp [go_sem, ty4, ty9]
                repeat refine tk ?_
                refine h63 _ ?_
                clear h63 K63
                refine W_ret ?_
                first | (simp [go_sem, formS, formOk, inR, hb5, hb9, hb51, hb55, hb56, hb59, hb62]; done) | omega | (simp [go_sem, formS, formOk, inR, hb5, hb9, hb51, hb55, hb56, hb59, hb62]; omega)
              · try simp at hb62
                refine W_seqK fun K64 h64 => ?_
                refine W_reg ?_
                simp [go_sem, ty3, ty4]
                repeat refine tk ?_
                refine h64 _ ?_
                clear h64 K64
                refine W_cond rfl (fun hb65 => ?_) fun hb65 => ?_
                · try simp at hb65
                  refine W_seqK fun K66 h66 => ?_
                  refine W_reg ?_
                  simp [go_sem, ty4, ty9]
                  repeat refine tk ?_
                  refine h66 _ ?_
                  clear h66 K66
                  refine W_ret ?_
                  first | (simp [go_sem, formS, formOk, inR, hb5, hb9, hb51, hb55, hb56, hb59, hb62, hb65]; done) | omega | (simp [go_sem, formS, formOk, inR, hb5, hb9, hb51, hb55, hb56, hb59, hb62, hb65]; omega)
                · try simp at hb65
                  refine W_seqK fun K67 h67 => ?_
                  refine W_reg ?_
                  simp [go_sem, ty3, ty4]
                  repeat refine tk ?_
                  refine h67 _ ?_
                  clear h67 K67
                  refine W_cond rfl (fun hb68 => ?_) fun hb68 => ?_
                  · try simp at hb68
                    refine W_seqK fun K69 h69 => ?_
                    refine W_reg ?_
                    simp [go_sem, ty4, ty9]
                    repeat refine tk ?_
                    refine h69 _ ?_
                    clear h69 K69
                    refine W_ret ?_
                    first | (simp [go_sem, formS, formOk, inR, hb5, hb9, hb51, hb55, hb56, hb59, hb62, hb65, hb68]; done) | omega | (simp [go_sem, formS, formOk, inR, hb5, hb9, hb51, hb55, hb56, hb59, hb62, hb65, hb68]; omega)
                  · try simp at hb68
                    refine W_seqK fun K70 h70 => ?_
                    refine W_reg ?_
                    simp [go_sem, ty3, ty4]
                    repeat refine tk ?_
                    refine h70 _ ?_
                    clear h70 K70
                    refine W_cond rfl (fun hb71 => ?_) fun hb71 => ?_
                    · try simp at hb71
                      refine W_seqK fun K72 h72 => ?_
                      refine W_reg ?_
                      simp [go_sem, ty4, ty9]
                      repeat refine tk ?_
                      refine h72 _ ?_
                      clear h72 K72
                      refine W_ret ?_
                      first | (simp [go_sem, formS, formOk, inR, hb5, hb9, hb51, hb55, hb56, hb59, hb62, hb65, hb68, hb71]; done) | omega | (simp [go_sem, formS, formOk, inR, hb5, hb9, hb51, hb55, hb56, hb59, hb62, hb65, hb68, hb71]; omega)
                    · try simp at hb71
                      refine W_skip ?_
                      repeat refine tk ?_
                      refine h2 _ ?_
                      clear h2 K2
                      refine W_seqK fun K73 h73 => ?_
                      refine W_reg ?_
                      simp [go_sem, ty4, ty9]
                      repeat refine tk ?_
                      refine h73 _ ?_
                      clear h73 K73
                      refine W_ret ?_
                      first | (simp [go_sem, formS, formOk, inR, hb5, hb9, hb51, hb55, hb56, hb59, hb62, hb65, hb68, hb71]; done) | omega | (simp [go_sem, formS, formOk, inR, hb5, hb9, hb51, hb55, hb56, hb59, hb62, hb65, hb68, hb71]; omega)
        · try simp at hb55
          refine W_reg ?_
          simp [go_sem, ty3, ty4]
          repeat refine tk ?_
          refine h53 _ ?_
          clear h53 K53
          refine W_cond rfl (fun hb74 => ?_) fun hb74 => ?_
          · try simp at hb74
            refine W_seqK fun K75 h75 => ?_
            refine W_reg ?_
            simp [go_sem, ty4, ty9]
            repeat refine tk ?_
            refine h75 _ ?_
            clear h75 K75
            refine W_ret ?_
            first | (simp [go_sem, formS, formOk, inR, hb5, hb9, hb51, hb55, hb74]; done) | omega | (simp [go_sem, formS, formOk, inR, hb5, hb9, hb51, hb55, hb74]; omega)
          · try simp at hb74
            refine W_seqK fun K76 h76 => ?_
            refine W_reg ?_
            simp [go_sem, ty3, ty4]
            repeat refine tk ?_
            refine h76 _ ?_
            clear h76 K76
            refine W_cond rfl (fun hb77 => ?_) fun hb77 => ?_
            · try simp at hb77
              refine W_seqK fun K78 h78 => ?_
              refine W_reg ?_
              simp [go_sem, ty4, ty9]
              repeat refine tk ?_
              refine h78 _ ?_
              clear h78 K78
              refine W_ret ?_
              first | (simp [go_sem, formS, formOk, inR, hb5, hb9, hb51, hb55, hb74, hb77]; done) | omega | (simp [go_sem, formS, formOk, inR, hb5, hb9, hb51, hb55, hb74, hb77]; omega)
            · try simp at hb77
              refine W_seqK fun K79 h79 => ?_
              refine W_reg ?_
              simp [go_sem, ty3, ty4]
              repeat refine tk ?_
              refine h79 _ ?_
              clear h79 K79
              refine W_cond rfl (fun hb80 => ?_) fun hb80 => ?_
              · try simp at hb80
                refine W_seqK fun K81 h81 => ?_
                refine W_reg ?_
                simp [go_sem, ty4, ty9]
                repeat refine tk ?_
                refine h81 _ ?_
                clear h81 K81
                refine W_ret ?_
                first | (simp [go_sem, formS, formOk, inR, hb5, hb9, hb51, hb55, hb74, hb77, hb80]; done) | omega | (simp [go_sem, formS, formOk, inR, hb5, hb9, hb51, hb55, hb74, hb77, hb80]; omega)
              · try simp at hb80
                refine W_seqK fun K82 h82 => ?_
                refine W_reg ?_
                simp [go_sem, ty3, ty4]
                repeat refine tk ?_
                refine h82 _ ?_
                clear h82 K82
                refine W_cond rfl (fun hb83 => ?_) fun hb83 => ?_
                · try simp at hb83
                  refine W_seqK fun K84 h84 => ?_
                  refine W_reg ?_
                  simp [go_sem, ty4, ty9]
                  repeat refine tk ?_
                  refine h84 _ ?_
                  clear h84 K84
                  refine W_ret ?_
                  first | (simp [go_sem, formS, formOk, inR, hb5, hb9, hb51, hb55, hb74, hb77, hb80, hb83]; done) | omega | (simp [go_sem, formS, formOk, inR, hb5, hb9, hb51, hb55, hb74, hb77, hb80, hb83]; omega)
                · try simp at hb83
                  refine W_seqK fun K85 h85 => ?_
                  refine W_reg ?_
                  simp [go_sem, ty3, ty4]
                  repeat refine tk ?_
                  refine h85 _ ?_
                  clear h85 K85
                  refine W_cond rfl (fun hb86 => ?_) fun hb86 => ?_
                  · try simp at hb86
                    refine W_seqK fun K87 h87 => ?_
                    refine W_reg ?_
                    simp [go_sem, ty4, ty9]
                    repeat refine tk ?_
                    refine h87 _ ?_
                    clear h87 K87
                    refine W_ret ?_
                    first | (simp [go_sem, formS, formOk, inR, hb5, hb9, hb51, hb55, hb74, hb77, hb80, hb83, hb86]; done) | omega | (simp [go_sem, formS, formOk, inR, hb5, hb9, hb51, hb55, hb74, hb77, hb80, hb83, hb86]; omega)
                  · try simp at hb86
                    refine W_seqK fun K88 h88 => ?_
                    refine W_reg ?_
                    simp [go_sem, ty3, ty4]
                    repeat refine tk ?_
                    refine h88 _ ?_
                    clear h88 K88
                    refine W_cond rfl (fun hb89 => ?_) fun hb89 => ?_
                    · try simp at hb89
                      refine W_seqK fun K90 h90 => ?_
                      refine W_reg ?_
                      simp [go_sem, ty4, ty9]
                      repeat refine tk ?_
                      refine h90 _ ?_
                      clear h90 K90
                      refine W_ret ?_
                      first | (simp [go_sem, formS, formOk, inR, hb5, hb9, hb51, hb55, hb74, hb77, hb80, hb83, hb86, hb89]; done) | omega | (simp [go_sem, formS, formOk, inR, hb5, hb9, hb51, hb55, hb74, hb77, hb80, hb83, hb86, hb89]; omega)
                    · try simp at hb89
                      refine W_skip ?_
                      repeat refine tk ?_
                      refine h2 _ ?_
                      clear h2 K2
                      refine W_seqK fun K91 h91 => ?_
                      refine W_reg ?_
                      simp [go_sem, ty4, ty9]
                      repeat refine tk ?_
                      refine h91 _ ?_
                      clear h91 K91
                      refine W_ret ?_
                      first | (simp [go_sem, formS, formOk, inR, hb5, hb9, hb51, hb55, hb74, hb77, hb80, hb83, hb86, hb89]; done) | omega | (simp [go_sem, formS, formOk, inR, hb5, hb9, hb51, hb55, hb74, hb77, hb80, hb83, hb86, hb89]; omega)

set_option maxRecDepth 100000 in
set_option maxHeartbeats 4000000 in
theorem pc_slices_Clone_int_int (xs : List Int) (hx : xs.length * 8 ≤ 140737488355328) : PC Tryz.prog 176 [(false, [.sl 1 (enc eI xs)])] [(false, [.sl 1 (enc eI xs)])] := by
  refine PC_of (n := 8) Tryz.func176 rfl rfl rfl rfl (by simp) ?_
  refine W_seqK fun K1 h1 => ?_
  refine W_reg ?_
  simp [go_sem, ty3, ty22]
  repeat refine tk ?_
  refine h1 _ ?_
  clear h1 K1
  refine W_seqK fun K2 h2 => ?_
  refine W_seqK fun K3 h3 => ?_
  refine W_regNil (by rw [ty22]) rfl rfl (by decide) (by decide) fun b hnil => ?_
  simp [go_sem]
  repeat refine tk ?_
  refine h3 _ ?_
  clear h3 K3
  refine W_cond rfl (fun hb4 => ?_) fun hb4 => ?_
  · obtain rfl : xs = [] := List.length_eq_zero_iff.1 (hnil hb4)
    refine W_seqK fun K5 h5 => ?_
    refine W_reg ?_
    simp [go_sem, ty3, ty22]
    repeat refine tk ?_
    refine h5 _ ?_
    clear h5 K5
    refine W_ret ?_
    simp [go_sem]
  · skip
    refine W_skip ?_
    repeat refine tk ?_
    refine h2 _ ?_
    clear h2 K2
    refine W_seqK fun K6 h6 => ?_
    refine W_reg ?_
    simp [go_sem, ty3, ty22]
    repeat refine tk ?_
    refine h6 _ ?_
    clear h6 K6
    refine W_ret ?_
    simp [go_sem]

set_option maxRecDepth 100000 in
set_option maxHeartbeats 4000000 in
theorem pc_slices_Clone_bool_bool (xs : List Bool) (hx : xs.length * 1 ≤ 140737488355328) : PC Tryz.prog 177 [(false, [.sl 1 (enc eB xs)])] [(false, [.sl 1 (enc eB xs)])] := by
  refine PC_of (n := 8) Tryz.func177 rfl rfl rfl rfl (by simp) ?_
  refine W_seqK fun K1 h1 => ?_
  refine W_reg ?_
  simp [go_sem, ty4, ty113]
  repeat refine tk ?_
  refine h1 _ ?_
  clear h1 K1
  refine W_seqK fun K2 h2 => ?_
  refine W_seqK fun K3 h3 => ?_
  refine W_regNil (by rw [ty113]) rfl rfl (by decide) (by decide) fun b hnil => ?_
  simp [go_sem]
  repeat refine tk ?_
  refine h3 _ ?_
  clear h3 K3
  refine W_cond rfl (fun hb4 => ?_) fun hb4 => ?_
  · obtain rfl : xs = [] := List.length_eq_zero_iff.1 (hnil hb4)
    refine W_seqK fun K5 h5 => ?_
    refine W_reg ?_
    simp [go_sem, ty4, ty113]
    repeat refine tk ?_
    refine h5 _ ?_
    clear h5 K5
    refine W_ret ?_
    simp [go_sem]
  · skip
    refine W_skip ?_
    repeat refine tk ?_
    refine h2 _ ?_
    clear h2 K2
    refine W_seqK fun K6 h6 => ?_
    refine W_reg ?_
    simp [go_sem, ty4, ty113]
    repeat refine tk ?_
    refine h6 _ ?_
    clear h6 K6
    refine W_ret ?_
    simp [go_sem]

set_option maxRecDepth 100000 in
set_option maxHeartbeats 4000000 in
theorem pc_slices_Clone_impl_Receiver_impl_Receiver (xs : List GReceiver) (hx : xs.length * 8 ≤ 140737488355328) : PC Tryz.prog 106 [(false, [.sl 1 (enc eReceiver xs)])] [(false, [.sl 1 (enc eReceiver xs)])] := by
  refine PC_of (n := 8) Tryz.func106 rfl rfl rfl rfl (by simp) ?_
  refine W_seqK fun K1 h1 => ?_
  refine W_reg ?_
  simp [go_sem, ty43, ty153]
  repeat refine tk ?_
  refine h1 _ ?_
  clear h1 K1
  refine W_seqK fun K2 h2 => ?_
  refine W_seqK fun K3 h3 => ?_
  refine W_regNil (by rw [ty43]) rfl rfl (by decide) (by decide) fun b hnil => ?_
  simp [go_sem]
  repeat refine tk ?_
  refine h3 _ ?_
  clear h3 K3
  refine W_cond rfl (fun hb4 => ?_) fun hb4 => ?_
  · obtain rfl : xs = [] := List.length_eq_zero_iff.1 (hnil hb4)
    refine W_seqK fun K5 h5 => ?_
    refine W_reg ?_
    simp [go_sem, ty43, ty153]
    repeat refine tk ?_
    refine h5 _ ?_
    clear h5 K5
    refine W_ret ?_
    simp [go_sem]
  · skip
    refine W_skip ?_
    repeat refine tk ?_
    refine h2 _ ?_
    clear h2 K2
    refine W_seqK fun K6 h6 => ?_
    refine W_reg ?_
    simp [go_sem, ty43, ty153]
    repeat refine tk ?_
    refine h6 _ ?_
    clear h6 K6
    refine W_ret ?_
    simp [go_sem]

set_option maxRecDepth 100000 in
set_option maxHeartbeats 4000000 in
theorem pc_slices_Clone_impl_Wait_impl_Wait (xs : List GWait) (hx : xs.length * 16 ≤ 140737488355328) : PC Tryz.prog 178 [(false, [.sl 2 (enc eWait xs)])] [(false, [.sl 2 (enc eWait xs)])] := by
  refine PC_of (n := 8) Tryz.func178 rfl rfl rfl rfl (by simp) ?_
  refine W_seqK fun K1 h1 => ?_
  refine W_reg ?_
  simp [go_sem, ty129, ty130]
  repeat refine tk ?_
  refine h1 _ ?_
  clear h1 K1
  refine W_seqK fun K2 h2 => ?_
  refine W_seqK fun K3 h3 => ?_
  refine W_regNil (by rw [ty130]) rfl rfl (by decide) (by decide) fun b hnil => ?_
  simp [go_sem]
  repeat refine tk ?_
  refine h3 _ ?_
  clear h3 K3
  refine W_cond rfl (fun hb4 => ?_) fun hb4 => ?_
  · obtain rfl : xs = [] := List.length_eq_zero_iff.1 (hnil hb4)
    refine W_seqK fun K5 h5 => ?_
    refine W_reg ?_
    simp [go_sem, ty129, ty130]
    repeat refine tk ?_
    refine h5 _ ?_
    clear h5 K5
    refine W_ret ?_
    simp [go_sem]
  · skip
    refine W_skip ?_
    repeat refine tk ?_
    refine h2 _ ?_
    clear h2 K2
    refine W_seqK fun K6 h6 => ?_
    refine W_reg ?_
    simp [go_sem, ty129, ty130]
    repeat refine tk ?_
    refine h6 _ ?_
    clear h6 K6
    refine W_ret ?_
    simp [go_sem]

set_option maxRecDepth 100000 in
set_option maxHeartbeats 4000000 in
theorem pc_slices_Clone_impl_Ins_impl_Ins (xs : List GIns) (hx : xs.length * 40 ≤ 140737488355328) : PC Tryz.prog 114 [(false, [.sl 5 (enc eIns xs)])] [(false, [.sl 5 (enc eIns xs)])] := by
  refine PC_of (n := 8) Tryz.func114 rfl rfl rfl rfl (by simp) ?_
  refine W_seqK fun K1 h1 => ?_
  refine W_reg ?_
  simp [go_sem, ty68, ty72]
  repeat refine tk ?_
  refine h1 _ ?_
  clear h1 K1
  refine W_seqK fun K2 h2 => ?_
  refine W_seqK fun K3 h3 => ?_
  refine W_regNil (by rw [ty72]) rfl rfl (by decide) (by decide) fun b hnil => ?_
  simp [go_sem]
  repeat refine tk ?_
  refine h3 _ ?_
  clear h3 K3
  refine W_cond rfl (fun hb4 => ?_) fun hb4 => ?_
  · obtain rfl : xs = [] := List.length_eq_zero_iff.1 (hnil hb4)
    refine W_seqK fun K5 h5 => ?_
    refine W_reg ?_
    simp [go_sem, ty68, ty72]
    repeat refine tk ?_
    refine h5 _ ?_
    clear h5 K5
    refine W_ret ?_
    simp [go_sem]
  · skip
    refine W_skip ?_
    repeat refine tk ?_
    refine h2 _ ?_
    clear h2 K2
    refine W_seqK fun K6 h6 => ?_
    refine W_reg ?_
    simp [go_sem, ty68, ty72]
    repeat refine tk ?_
    refine h6 _ ?_
    clear h6 K6
    refine W_ret ?_
    simp [go_sem]

set_option maxRecDepth 100000 in
set_option maxHeartbeats 4000000 in
theorem q_IndexFunc_Int {σ : St} {r F : Nat} {bs : List Nat} {caps : List (List T)} {pm : Pm} {xs : List Int} {pr : Int → Bool} (hrow : get σ.row r = some ⟨pm, 1, enc eI xs⟩) (hx : xs.length ≤ 9223372036854775806) (hcap : capsDen σ bs caps) (hfr : σ.row.all (fun x => decide (x.1 < σ.nxt)) = true) (hF : ∀ x ∈ xs, PCb Tryz.prog F [(false, [.int .i64 x])] caps [(false, [.bool (pr x)])]) : Quiet Tryz.prog 207 [.l (.ref r [] 1 0 xs.length), .l (.fn F bs)] (.int .i64 (idxOf pr xs)) σ := by
  intro K hK
  refine CallW_inline (n := 19) Tryz.func207 rfl rfl rfl rfl (by simp) fun a => ?_
  refine W_seqK fun K1 h1 => ?_
  refine W_reg ?_
  simp [go_sem, ty3]
  repeat refine tk ?_
  refine h1 _ ?_
  clear h1 K1
  refine W_seqK fun K2 h2 => ?_
  refine W_seqK fun K3 h3 => ?_
  refine W_reg ?_
  simp [go_sem, ty3, ty22]
  repeat refine tk ?_
  refine h3 _ ?_
  clear h3 K3
  refine W_block ?_
  refine W_loopI (α := Nat) (fun i => { env := [(0, true, .l (.ref r [] 1 0 xs.length)), (1, true, .l (.fn F bs)), (7, true, .l (.t (.int .i64 xs.length))), (8, true, .l (.t (.int .i64 i)))], box := σ.box, row := σ.row, nxt := σ.nxt, sav := (σ.env, a) :: σ.sav }) (fun i => i ≤ xs.length ∧ ∀ j, (hj : j < xs.length) → j < i → pr xs[j] = false) (fun i => xs.length - i) 0 ?_ ?_ ?_
  · exact Sub.of_to [0, 1, 7, 8] σ.nxt (by decide) (by simp [go_sem])
  · simp
  rintro i hinv
  obtain ⟨hi, hall⟩ := hinv
  refine W_seqK fun K5 h5 => ?_
  refine W_reg ?_
  simp [go_sem, ty3]
  repeat refine tk ?_
  refine h5 _ ?_
  clear h5 K5
  refine W_seqK fun K6 h6 => ?_
  refine W_cond rfl (fun hb7 => ?_) fun hb7 => ?_
  · have hlt : i < xs.length := by simpa using hb7
    clear hb7
    refine W_skip ?_
    repeat refine tk ?_
    refine h6 _ ?_
    clear h6 K6
    refine W_seqK fun K8 h8 => ?_
    refine W_block ?_
    refine W_seqK fun K9 h9 => ?_
    refine W_reg ?_
    simp [go_sem, ty3]
    repeat refine tk ?_
    refine h9 _ ?_
    clear h9 K9
    refine W_seqK fun K10 h10 => ?_
    refine W_reg ?_
    simp [go_sem, ty3, ty4, ty22, hlt, hrow]
    refine callG_quiet (fun hG => quiet_pcb (vs := [_]) (hF xs[i] (List.getElem_mem hlt)) (by simp [go_sem, hlt, hrow]) (by refine capsDen_same (σ := σ) ?_ ?_ hcap <;> rfl) hfr rfl) (by simp) ?_
    simp [go_sem, hlt, hrow]
    repeat refine tk ?_
    refine h10 _ ?_
    clear h10 K10
    refine W_cond rfl (fun hb11 => ?_) fun hb11 => ?_
    · have hid : idxOf pr xs = i := idxOf_some hall hlt hb11
      refine W_seqK fun K12 h12 => ?_
      refine W_reg ?_
      simp [go_sem, ty3]
      repeat refine tk ?_
      refine h12 _ ?_
      clear h12 K12
      refine W_ret ?_
      rw [hid] at hK
      simp [go_sem]
      exact ⟨_, _, ⟨rfl, rfl⟩, hK⟩
    · have hp : pr xs[i] = false := hb11
      clear hb11
      refine W_skip ?_
      repeat refine tk ?_
      refine h8 _ ?_
      clear h8 K8
      refine W_reg ?_
      simp [go_sem, ty3]
      refine ⟨i + 1, ?_, ?_, ?_⟩
      · exact Sub.of_to [0, 1, 7, 8] σ.nxt (by decide) (by simp [go_sem, wrap_succ (show i < 9223372036854775807 by omega)])
      · exact ⟨hlt, fun j hj hji => by rcases Nat.lt_succ_iff_lt_or_eq.1 hji with h | rfl; exact hall j hj h; exact hp⟩
      · omega
  · obtain rfl : i = xs.length := by simp at hb7; omega
    have hid : idxOf pr xs = -1 := idxOf_none fun j hj => hall j hj hj
    clear hb7
    refine W_exit ?_
    simp [go_sem]
    repeat refine tk ?_
    refine h2 _ ?_
    clear h6 K6 h2 K2
    refine W_seqK fun K13 h13 => ?_
    refine W_reg ?_
    simp [go_sem, ty3]
    repeat refine tk ?_
    refine h13 _ ?_
    clear h13 K13
    refine W_ret ?_
    rw [hid] at hK
    simp [go_sem]
    exact ⟨_, _, ⟨rfl, rfl⟩, hK⟩

set_option maxRecDepth 100000 in
set_option maxHeartbeats 4000000 in
theorem q_ContainsFunc_Int {σ : St} {r F : Nat} {bs : List Nat} {caps : List (List T)} {pm : Pm} {xs : List Int} {pr : Int → Bool} (hrow : get σ.row r = some ⟨pm, 1, enc eI xs⟩) (hx : xs.length ≤ 9223372036854775806) (hcap : capsDen σ bs caps) (hfr : σ.row.all (fun x => decide (x.1 < σ.nxt)) = true) (hF : ∀ x ∈ xs, PCb Tryz.prog F [(false, [.int .i64 x])] caps [(false, [.bool (pr x)])]) : Quiet Tryz.prog 201 [.l (.ref r [] 1 0 xs.length), .l (.fn F bs)] (.bool (xs.any pr)) σ := by
  intro K hK
  refine CallW_inline (n := 9) Tryz.func201 rfl rfl rfl rfl (by simp) fun a => ?_
  refine W_seqK fun K1 h1 => ?_
  refine W_reg ?_
  simp [go_sem, ty4]
  repeat refine tk ?_
  refine h1 _ ?_
  clear h1 K1
  refine W_seqK fun K2 h2 => ?_
  refine W_reg ?_
  simp [go_sem, ty3, ty22]
  refine callG_quiet (fun hG => q_IndexFunc_Int (pr := pr) hrow hx (by refine capsDen_same (σ := σ) ?_ ?_ hcap <;> rfl) hfr hF) (by simp) ?_
  simp [go_sem, ty3, ty4]
  repeat refine tk ?_
  refine h2 _ ?_
  clear h2 K2
  refine W_ret ?_
  rw [← idxOf_any] at hK
  simp [go_sem]
  exact ⟨_, _, ⟨rfl, rfl⟩, hK⟩

set_option maxRecDepth 100000 in
set_option maxHeartbeats 4000000 in
theorem pc_impl_isWord (x : Int)  : PC Tryz.prog 121 [(false, [.int .i64 x])] [(false, [.bool (inR x 0 65535)])] := by
  refine PC_of (n := 5) Tryz.func121 rfl rfl rfl rfl (by simp) ?_
  refine W_seqK fun K1 h1 => ?_
  refine W_reg ?_
  simp [go_sem, ty4]
  repeat refine tk ?_
  refine h1 _ ?_
  clear h1 K1
  refine W_seqK fun K2 h2 => ?_
  refine W_reg ?_
  simp [go_sem, ty3, ty4]
  refine callA (fun hG => pc_impl_from x 0 65535) (fun hG => by simp [go_sem]) rfl rfl ?_
  simp [go_sem, ty4]
  repeat refine tk ?_
  refine h2 _ ?_
  clear h2 K2
  refine W_ret ?_
  simp [go_sem]

set_option maxRecDepth 100000 in
set_option maxHeartbeats 4000000 in
theorem pc_impl_isCell (x : Int)  : PC Tryz.prog 115 [(false, [.int .i64 x])] [(false, [.bool (inR x 0 23)])] := by
  refine PC_of (n := 5) Tryz.func115 rfl rfl rfl rfl (by simp) ?_
  refine W_seqK fun K1 h1 => ?_
  refine W_reg ?_
  simp [go_sem, ty4]
  repeat refine tk ?_
  refine h1 _ ?_
  clear h1 K1
  refine W_seqK fun K2 h2 => ?_
  refine W_reg ?_
  simp [go_sem, ty3, ty4]
  refine callA (fun hG => pc_impl_from x 0 23) (fun hG => by simp [go_sem]) rfl rfl ?_
  simp [go_sem, ty4]
  repeat refine tk ?_
  refine h2 _ ?_
  clear h2 K2
  refine W_ret ?_
  simp [go_sem]

set_option maxRecDepth 100000 in
set_option maxHeartbeats 4000000 in
theorem pc_impl_wordsOk_1 (x : Int)  : PC Tryz.prog 202 [(false, [.int .i64 x])] [(false, [.bool (!(inR x 0 65535))])] := by
  refine PC_of (n := 6) Tryz.func202 rfl rfl rfl rfl (by simp) ?_
  refine W_seqK fun K1 h1 => ?_
  refine W_reg ?_
  simp [go_sem, ty4]
  repeat refine tk ?_
  refine h1 _ ?_
  clear h1 K1
  refine W_seqK fun K2 h2 => ?_
  refine W_reg ?_
  simp [go_sem, ty3, ty4]
  refine callA (fun hG => pc_impl_isWord x) (fun hG => by simp [go_sem]) rfl rfl ?_
  simp [go_sem, ty4]
  repeat refine tk ?_
  refine h2 _ ?_
  clear h2 K2
  refine W_ret ?_
  simp [go_sem]

set_option maxRecDepth 100000 in
set_option maxHeartbeats 4000000 in
theorem pc_impl_wordsOk (xs : List Int) (n : Int) (hx : xs.length ≤ 9223372036854775806) : PC Tryz.prog 172 [(false, [.sl 1 (enc eI xs)]), (false, [.int .i64 n])] [(false, [.bool (wordsOk xs n)])] := by
  refine PC_of (n := 14) Tryz.func172 rfl rfl rfl rfl (by simp) ?_
  refine W_seqK fun K1 h1 => ?_
  refine W_reg ?_
  simp [go_sem, ty4]
  repeat refine tk ?_
  refine h1 _ ?_
  clear h1 K1
  refine W_seqK fun K2 h2 => ?_
  refine W_reg ?_
  simp [go_sem, ty3, ty4, ty22]
  refine callG_quiet (fun hG => q_ContainsFunc_Int (pr := fun x => !(inR x 0 65535)) (bs := []) (caps := []) rfl (by omega) trivial rfl (fun x hx => PC.toB (pc_impl_wordsOk_1 x))) (by first | (simp; done) | (simp [inR_iff]; done) | (simp [inR_iff]; grind) | grind) ?_
  simp [go_sem, ty4]
  repeat refine tk ?_
  refine h2 _ ?_
  clear h2 K2
  refine W_ret ?_
  rw [← wordsOk_any]
  simp [go_sem]
  by_cases hq : (xs.length : Int) = n <;> simp [hq]

set_option maxRecDepth 100000 in
set_option maxHeartbeats 4000000 in
theorem pc_spec_l1Words (xs : List Int) (n : Int) (hx : xs.length ≤ 9223372036854775806) : PC Tryz.prog 148 [(false, [.sl 1 (enc eI xs)]), (false, [.int .i64 n])] [(false, [.bool (wordsOk xs n)])] := by
  refine PC_of (n := 22) Tryz.func148 rfl rfl rfl rfl (by simp) ?_
  refine W_seqK fun K1 h1 => ?_
  refine W_reg ?_
  simp [go_sem, ty4]
  repeat refine tk ?_
  refine h1 _ ?_
  clear h1 K1
  refine W_seqK fun K2 h2 => ?_
  refine W_seqK fun K3 h3 => ?_
  refine W_reg ?_
  simp [go_sem, ty3]
  repeat refine tk ?_
  refine h3 _ ?_
  clear h3 K3
  refine W_block ?_
  refine W_loopI (α := Nat) (fun i => ({ env := [(0, true, .l (.ref 0 [] 1 0 (xs.length))), (1, true, .l (.t (.int .i64 (n)))), (5, true, .l (.t (.int .i64 (i))))], box := [], row := [(0, ⟨.ro, 1, enc eI xs⟩)], nxt := 2, sav := [] } : St)) (fun i => i ≤ xs.length ∧ ∀ j, (hj : j < xs.length) → j < i → isW xs[j] = true) (fun i => xs.length - i) 0 ?_ ?_ ?_
  · exact Sub.of_neat [0, 1, 5] [0] [] 2 (by decide) (by simp [go_sem])
  · simp
  rintro i hinv
  obtain ⟨hi, hall⟩ := hinv
  refine W_seqK fun K5 h5 => ?_
  refine W_seqK fun K6 h6 => ?_
  refine W_reg ?_
  simp [go_sem, ty3, ty4, ty22]
  repeat refine tk ?_
  refine h6 _ ?_
  clear h6 K6
  refine W_cond rfl (fun hb7 => ?_) fun hb7 => ?_
  · have hlt : i < xs.length := by simpa using hb7
    clear hb7
    refine W_skip ?_
    repeat refine tk ?_
    refine h5 _ ?_
    clear h5 K5
    refine W_seqK fun K8 h8 => ?_
    refine W_block ?_
    refine W_seqK fun K9 h9 => ?_
    refine W_reg ?_
    simp [go_sem, ty3, ty4, ty22, hlt]
    refine callA (fun hG => pc_spec_l1In xs[i] 0 65535) (fun hG => by simp [go_sem]) rfl rfl ?_
    simp [go_sem, ty4, hlt]
    repeat refine tk ?_
    refine h9 _ ?_
    clear h9 K9
    refine W_cond rfl (fun hb10 => ?_) fun hb10 => ?_
    · have hw : wordsOk xs n = false := wordsOk_false hlt (by simpa [isW] using hb10)
      refine W_seqK fun K11 h11 => ?_
      refine W_reg ?_
      simp [go_sem, ty4]
      repeat refine tk ?_
      refine h11 _ ?_
      clear h11 K11
      refine W_ret ?_
      simp [go_sem, hw]
      first | done | (by_cases hq : (xs.length : Int) = n <;> simp [hq])
    · have hp : isW xs[i] = true := by simpa [isW] using hb10
      clear hb10
      refine W_skip ?_
      repeat refine tk ?_
      refine h8 _ ?_
      clear h8 K8
      refine W_reg ?_
      simp [go_sem, ty3]
      refine ⟨i + 1, ?_, ?_, ?_⟩
      · exact Sub.of_neat [0, 1, 5] [0] [] 2 (by decide) (by simp [go_sem, wrap_succ (show i < 9223372036854775807 by omega)])
      · exact ⟨hlt, fun j hj hji => by rcases Nat.lt_succ_iff_lt_or_eq.1 hji with h | rfl; exact hall j hj h; exact hp⟩
      · omega
  · obtain rfl : i = xs.length := by simp at hb7; omega
    have hw := wordsOk_all (n := n) fun j hj => hall j hj hj
    clear hb7
    refine W_exit ?_
    simp [go_sem]
    repeat refine tk ?_
    refine h2 _ ?_
    clear h5 K5 h2 K2
    refine W_seqK fun K12 h12 => ?_
    refine W_reg ?_
    simp [go_sem, ty3, ty4, ty22]
    repeat refine tk ?_
    refine h12 _ ?_
    clear h12 K12
    refine W_ret ?_
    simp [go_sem, hw]
    first | done | (by_cases hq : (xs.length : Int) = n <;> simp [hq])

set_option maxRecDepth 100000 in
set_option maxHeartbeats 4000000 in
theorem pc_impl_copyMsg (m : GMsg) (hx : m.list.length ≤ 1048576) : PC Tryz.prog 179 [(true, eMsg m)] [(true, eMsg m)] := by
  refine PC_of (n := 8) Tryz.func179 rfl rfl rfl rfl (by simp) ?_
  refine W_seqK fun K1 h1 => ?_
  refine W_reg ?_
  simp [go_sem, ty159]
  repeat refine tk ?_
  refine h1 _ ?_
  clear h1 K1
  refine W_seqK fun K2 h2 => ?_
  refine W_reg ?_
  simp [go_sem, ty3, ty22, ty159]
  refine callA (fun hG => pc_slices_Clone_int_int m.list (by omega)) (fun hG => by simp [go_sem]) rfl rfl ?_
  simp [go_sem, ty3, ty22, ty159]
  repeat refine tk ?_
  refine h2 _ ?_
  clear h2 K2
  refine W_seqK fun K3 h3 => ?_
  refine W_reg ?_
  simp [go_sem, ty159]
  repeat refine tk ?_
  refine h3 _ ?_
  clear h3 K3
  refine W_ret ?_
  simp [go_sem, ty159]

set_option maxRecDepth 100000 in
set_option maxHeartbeats 4000000 in
theorem pc_spec_l1Msg (m : GMsg) (hx : m.list.length ≤ 1048576) : PC Tryz.prog 150 [(true, eMsg m)] [(true, eMsg m)] := by
  refine PC_of (n := 9) Tryz.func150 rfl rfl rfl rfl (by simp) ?_
  refine W_seqK fun K1 h1 => ?_
  refine W_reg ?_
  simp [go_sem, ty159]
  repeat refine tk ?_
  refine h1 _ ?_
  clear h1 K1
  refine W_seqK fun K2 h2 => ?_
  refine W_reg ?_
  simp [go_sem, ty3, ty22, ty159]
  repeat refine tk ?_
  refine h2 _ ?_
  clear h2 K2
  refine W_seqK fun K3 h3 => ?_
  refine W_reg ?_
  simp [go_sem, ty159]
  repeat refine tk ?_
  refine h3 _ ?_
  clear h3 K3
  refine W_ret ?_
  simp [go_sem, ty159]
end Go.Tw
