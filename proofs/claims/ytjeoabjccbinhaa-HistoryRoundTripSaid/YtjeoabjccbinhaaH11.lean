/- history.wellFormed. Conditions: the hypotheses that stand at each theorem. -/
import Derived.Test.YtjeoabjccbinhaaH2
import Derived.Laws.RangeString
import Derived.Laws.RangeAny
import Derived.Test.YtjeoabjccbinhaaPx1
namespace Go.Proofs.Ytjeoabjccbinhaa.P
open Go.RowKit Go.Proofs.YtjeoabjccbinhaaW.PrintWords Go.Proofs.YtjeoabjccbinhaaW.PrintLast Go.Proofs.YtjeoabjccbinhaaW.PrintMore
set_option linter.unusedVariables false
set_option linter.unusedSimpArgs false
attribute [local go_sem] Go.Proofs.YtjeoabjccbinhaaQ.str_gtr
def okc (c : Nat) : Bool := decide (97 ≤ c) && decide (c ≤ 122) || decide (48 ≤ c) && decide (c ≤ 57) || c == 95
/-- A name of the language: 1 to 32 bytes, a letter first. -/
def identB (s : ByteArray) : Bool := decide (0 < s.size) && decide (s.size ≤ 32) && decide (97 ≤ bt s 0) && decide (bt s 0 ≤ 122) && s.data.toList.all fun c => okc c.toNat
set_option maxHeartbeats 1000000 in
set_option maxRecDepth 100000 in
theorem f56_calls (s : ByteArray) (w : World) :
    Calls Try.prog 56 #[.string s] w fun e w' => e = .returned (.bool (identB s)) ∧ Below w.heap.size w w' := by
  by_cases h0 : s.size = 0
  · have hb : identB s = false := by unfold identB; simp [h0]
    rw [hb]
    have he : s.toList = [] := by rw [Lib.toList_data]; exact List.eq_nil_of_length_eq_zero (by simpa using h0)
    have he2 : (s.toList == ([] : List UInt8)) = true := by rw [he]; rfl
    have he3 : s.toList.isEmpty = true := by rw [he]; rfl
    clear hb h0
    go_enter Try.func56, Try.ntmps56
    go_wp2
    go_ret
    exact ⟨rfl, Below.refl _ _⟩
  · have hp : 0 < s.size := by omega
    have he2 : (s.toList == ([] : List UInt8)) = false := by rw [Lib.toList_data]; simp; exact fun h => h0 (by have := congrArg Array.size h; simpa using this)
    by_cases h1 : s.size ≤ 32
    · have hd1 : decide (32 < (s.size : Int)) = false := decide_eq_false (by omega)
      have hbt : bt s 0 = ((s[0]'hp).toNat : Int) := by unfold bt; simp [hp]
      by_cases h2 : 97 ≤ (s[0]'hp).toNat
      · by_cases h3 : (s[0]'hp).toNat ≤ 122
        · have hd2 : decide (((s[0]'hp).toNat : Int) < 97) = false := decide_eq_false (by omega)
          have hd3 : decide (122 < ((s[0]'hp).toNat : Int)) = false := decide_eq_false (by omega)
          have hB : identB s = s.data.toList.all (fun c => okc c.toNat) := by
            unfold identB
            rw [hbt, decide_eq_true hp, decide_eq_true h1, decide_eq_true (show (97 : Int) ≤ _ from by omega), decide_eq_true (show ((s[0]'hp).toNat : Int) ≤ 122 from by omega)]
            rfl
          have HB := Aside0.mk hB
          clear hB hbt
          go_enter Try.func56, Try.ntmps56
          go_wp2_with fail
          go_loopg [4] s.size (fun kq v4 w' => ∃ pos : Nat, w' = w.iter s pos ∧ pos ≤ s.size ∧ Aside0 (s.size ≤ kq + pos) ∧ Aside0 (∀ c ∈ s.data.toList.take pos, okc c.toNat = true))
          case atStart => exact ⟨0, rfl, Nat.zero_le _, ⟨by omega⟩, ⟨by simp⟩⟩
          case round =>
            obtain ⟨pos, rfl, hps, HK, HA⟩ := hrel
            by_cases hp1 : pos < s.size
            · cases gk with
              | zero => exact absurd HK.out (by omega)
              | succ k1 =>
                have hmem : s[pos]'hp1 ∈ s.data.toList := by
                  show s.data[pos] ∈ s.data.toList
                  simp
                by_cases hc8 : (s[pos]'hp1).toNat < 128
                · have hnx : ∀ ty, (Instr.next (.pointer (some ⟨w.heap.size, 0, none⟩)) true ty).run Try.prog (w.iter s pos) = _ := fun ty => run_next_ascii w s pos ty hp1 hc8
                  by_cases h97 : 97 ≤ (s[pos]'hp1).toNat
                  · by_cases h122 : (s[pos]'hp1).toNat ≤ 122
                    · skip
                      have HC : Aside0 (okc (s[pos]'hp1).toNat = true) := ⟨by unfold okc; simp; omega⟩
                      have f0_ : (decide (97 ≤ ((s[pos]'hp1).toNat : Int))) = true := by simp; omega
                      have f1_ : (decide (((s[pos]'hp1).toNat : Int) ≤ 122)) = true := by simp; omega
                      have f2_ : (decide (48 ≤ ((s[pos]'hp1).toNat : Int))) = true := by simp; omega
                      have f3_ : (decide (((s[pos]'hp1).toNat : Int) ≤ 57)) = false := by simp; omega
                      go_wp2
                      go_roundg k1
                      case measure => omega
                      case rel => exact ⟨pos + 1, rfl, by omega, ⟨by have := HK.out; omega⟩, ⟨fun c hc => by
                        rw [List.take_succ_eq_append_getElem (by simpa using hp1)] at hc
                        rcases List.mem_append.1 hc with h | h
                        · exact HA.out c h
                        · simp at h; subst h; exact HC.out⟩⟩
                    · skip
                      have HC : okc (s[pos]'hp1).toNat = false := by unfold okc; simp; omega
                      have HF : Aside0 (identB s = false) := ⟨by rw [HB.out, List.all_eq_false]; exact ⟨s[pos]'hp1, hmem, by rw [HC]; decide⟩⟩
                      clear HC
                      have f0_ : (decide (97 ≤ ((s[pos]'hp1).toNat : Int))) = true := by simp; omega
                      have f1_ : (decide (((s[pos]'hp1).toNat : Int) ≤ 122)) = false := by simp; omega
                      have f2_ : (decide (48 ≤ ((s[pos]'hp1).toNat : Int))) = true := by simp; omega
                      have f3_ : (decide (((s[pos]'hp1).toNat : Int) ≤ 57)) = false := by simp; omega
                      have f4_ : (((s[pos]'hp1).toNat : Int) == 95) = false := by simp; omega
                      have f5_ : (((s[pos]'hp1).toNat : Int) != 95) = true := by simp; omega
                      go_wp2
                      go_ret
                      exact ⟨by rw [HF.out]; rfl, (Below.refl _ _).alloc (Nat.le_refl _) _⟩
                  · by_cases h48 : 48 ≤ (s[pos]'hp1).toNat
                    · by_cases h57 : (s[pos]'hp1).toNat ≤ 57
                      · skip
                        have HC : Aside0 (okc (s[pos]'hp1).toNat = true) := ⟨by unfold okc; simp; omega⟩
                        have f0_ : (decide (97 ≤ ((s[pos]'hp1).toNat : Int))) = false := by simp; omega
                        have f1_ : (decide (48 ≤ ((s[pos]'hp1).toNat : Int))) = true := by simp; omega
                        have f2_ : (decide (((s[pos]'hp1).toNat : Int) ≤ 57)) = true := by simp; omega
                        go_wp2
                        go_roundg k1
                        case measure => omega
                        case rel => exact ⟨pos + 1, rfl, by omega, ⟨by have := HK.out; omega⟩, ⟨fun c hc => by
                          rw [List.take_succ_eq_append_getElem (by simpa using hp1)] at hc
                          rcases List.mem_append.1 hc with h | h
                          · exact HA.out c h
                          · simp at h; subst h; exact HC.out⟩⟩
                      · by_cases h95 : (s[pos]'hp1).toNat = 95
                        · skip
                          have HC : Aside0 (okc (s[pos]'hp1).toNat = true) := ⟨by unfold okc; simp; omega⟩
                          have f0_ : (decide (97 ≤ ((s[pos]'hp1).toNat : Int))) = false := by simp; omega
                          have f1_ : (decide (48 ≤ ((s[pos]'hp1).toNat : Int))) = true := by simp; omega
                          have f2_ : (decide (((s[pos]'hp1).toNat : Int) ≤ 57)) = false := by simp; omega
                          have f3_ : (((s[pos]'hp1).toNat : Int) == 95) = true := by simp; omega
                          have f4_ : (((s[pos]'hp1).toNat : Int) != 95) = false := by simp; omega
                          go_wp2
                          go_roundg k1
                          case measure => omega
                          case rel => exact ⟨pos + 1, rfl, by omega, ⟨by have := HK.out; omega⟩, ⟨fun c hc => by
                            rw [List.take_succ_eq_append_getElem (by simpa using hp1)] at hc
                            rcases List.mem_append.1 hc with h | h
                            · exact HA.out c h
                            · simp at h; subst h; exact HC.out⟩⟩
                        · skip
                          have HC : okc (s[pos]'hp1).toNat = false := by unfold okc; simp; omega
                          have HF : Aside0 (identB s = false) := ⟨by rw [HB.out, List.all_eq_false]; exact ⟨s[pos]'hp1, hmem, by rw [HC]; decide⟩⟩
                          clear HC
                          have f0_ : (decide (97 ≤ ((s[pos]'hp1).toNat : Int))) = false := by simp; omega
                          have f1_ : (decide (48 ≤ ((s[pos]'hp1).toNat : Int))) = true := by simp; omega
                          have f2_ : (decide (((s[pos]'hp1).toNat : Int) ≤ 57)) = false := by simp; omega
                          have f3_ : (((s[pos]'hp1).toNat : Int) == 95) = false := by simp; omega
                          have f4_ : (((s[pos]'hp1).toNat : Int) != 95) = true := by simp; omega
                          go_wp2
                          go_ret
                          exact ⟨by rw [HF.out]; rfl, (Below.refl _ _).alloc (Nat.le_refl _) _⟩
                    · skip
                      have HC : okc (s[pos]'hp1).toNat = false := by unfold okc; simp; omega
                      have HF : Aside0 (identB s = false) := ⟨by rw [HB.out, List.all_eq_false]; exact ⟨s[pos]'hp1, hmem, by rw [HC]; decide⟩⟩
                      clear HC
                      have f0_ : (decide (97 ≤ ((s[pos]'hp1).toNat : Int))) = false := by simp; omega
                      have f1_ : (decide (48 ≤ ((s[pos]'hp1).toNat : Int))) = false := by simp; omega
                      have f2_ : (((s[pos]'hp1).toNat : Int) == 95) = false := by simp; omega
                      have f3_ : (((s[pos]'hp1).toNat : Int) != 95) = true := by simp; omega
                      go_wp2
                      go_ret
                      exact ⟨by rw [HF.out]; rfl, (Below.refl _ _).alloc (Nat.le_refl _) _⟩
                · obtain ⟨hr1, hr2⟩ := decode_high s pos hp1 (by omega)
                  have hnx : ∀ ty, (Instr.next (.pointer (some ⟨w.heap.size, 0, none⟩)) true ty).run Try.prog (w.iter s pos) = _ := fun ty => run_next_any w s pos ty hp1
                  have HC : okc (s[pos]'hp1).toNat = false := by unfold okc; simp; omega
                  have HF : Aside0 (identB s = false) := ⟨by rw [HB.out, List.all_eq_false]; exact ⟨s[pos]'hp1, hmem, by rw [HC]; decide⟩⟩
                  clear HC

                  have f0_ : decide (97 ≤ ((Utf8.decode s pos).1 : Int)) = true := decide_eq_true (by omega)
                  have f1_ : decide (((Utf8.decode s pos).1 : Int) ≤ 122) = false := decide_eq_false (by omega)
                  have f2_ : decide (48 ≤ ((Utf8.decode s pos).1 : Int)) = true := decide_eq_true (by omega)
                  have f3_ : decide (((Utf8.decode s pos).1 : Int) ≤ 57) = false := decide_eq_false (by omega)
                  have f4_ : (((Utf8.decode s pos).1 : Int) == 95) = false := by simp; omega
                  have f5_ : (((Utf8.decode s pos).1 : Int) != 95) = true := by simp; omega
                  go_wp2
                  go_ret
                  exact ⟨by rw [HF.out]; rfl, (Below.refl _ _).alloc (Nat.le_refl _) _⟩
            · obtain rfl : pos = s.size := by omega
              have hnx : ∀ ty, (Instr.next (.pointer (some ⟨w.heap.size, 0, none⟩)) true ty).run Try.prog (w.iter s s.size) = _ := fun ty => run_next_end w s s.size ty hp1
              have HF : Aside0 (identB s = true) := ⟨by rw [HB.out, List.all_eq_true]; intro c hc; exact HA.out c (by rw [List.take_of_length_le (by simp)]; exact hc)⟩
              go_wp2
              go_ret
              exact ⟨by rw [HF.out]; rfl, (Below.refl _ _).alloc (Nat.le_refl _) _⟩
        · have hd2 : decide (((s[0]'hp).toNat : Int) < 97) = false := decide_eq_false (by omega)
          have hd3 : decide (122 < ((s[0]'hp).toNat : Int)) = true := decide_eq_true (by omega)
          have hB : identB s = false := by
            unfold identB
            rw [hbt, decide_eq_false (show ¬ ((s[0]'hp).toNat : Int) ≤ 122 from by omega)]
            simp
          rw [hB]
          clear hB hbt
          go_enter Try.func56, Try.ntmps56
          go_wp2
          go_ret
          exact ⟨rfl, Below.refl _ _⟩
      · have hd2 : decide (((s[0]'hp).toNat : Int) < 97) = true := decide_eq_true (by omega)
        have hB : identB s = false := by
          unfold identB
          rw [hbt, decide_eq_false (show ¬ (97 : Int) ≤ ((s[0]'hp).toNat : Int) from by omega)]
          simp
        rw [hB]
        clear hB hbt
        go_enter Try.func56, Try.ntmps56
        go_wp2
        go_ret
        exact ⟨rfl, Below.refl _ _⟩
    · have hd1 : decide (32 < (s.size : Int)) = true := decide_eq_true (by omega)
      have hB : identB s = false := by
        unfold identB
        rw [decide_eq_false h1]
        simp
      rw [hB]
      clear hB
      go_enter Try.func56, Try.ntmps56
      go_wp2
      go_ret
      exact ⟨rfl, Below.refl _ _⟩
end Go.Proofs.Ytjeoabjccbinhaa.P

namespace Go.Proofs.Ytjeoabjccbinhaa.P
open Go.RowKit Go.Proofs.YtjeoabjccbinhaaW.PrintWords Go.Proofs.YtjeoabjccbinhaaW.PrintLast Go.Proofs.YtjeoabjccbinhaaW.PrintMore
set_option linter.unusedVariables false
set_option linter.unusedSimpArgs false
attribute [local go_sem high] eqA32
def bareB (x2 x3 x4 : Int) : Bool := x2 == 0 && (x3 == 0 && x4 == 0)
/-- A log entry's form. -/
def wfB (x0 x1 x2 x3 x4 : Int) (x5 : ByteArray) : Bool :=
  if x0 = 1 then decide (1 ≤ x1) && decide (0 ≤ x2) && decide (0 ≤ x3) && decide (0 ≤ x4) && identB x5 && (x3 == 0 || x2 != 0)
  else if x0 = 2 ∨ x0 = 3 then decide (1 ≤ x1) && identB x5 && bareB x2 x3 x4
  else if x0 = 4 ∨ x0 = 5 then identB x5 && (x1 == 0 && bareB x2 x3 x4)
  else if x0 = 6 then decide (0 ≤ x1) && (bareB x2 x3 x4 && x5.toList.isEmpty)
  else if x0 = 7 then decide (1 ≤ x1) && (bareB x2 x3 x4 && x5.toList.isEmpty)
  else false
set_option maxHeartbeats 8000000 in
set_option maxRecDepth 100000 in
theorem f33_calls (x0 x1 x2 x3 x4 : Int) (x5 : ByteArray) (w : World) :
    Calls Try.prog 33 #[.agg #[.int .i64 x0, .int .i64 x1, .int .i64 x2, .int .i64 x3, .int .i64 x4, .string x5]] w fun e w' => e = .returned (.bool (wfB x0 x1 x2 x3 x4 x5)) ∧ Below w.heap.size w w' := by
  have H56 := Aside0.mk (fun W => f56_calls x5 W)
  obtain ⟨nb, hnb⟩ : ∃ b, identB x5 = b := ⟨_, rfl⟩
  have HN := Aside0.mk hnb
  rw [hnb] at H56
  clear hnb
  by_cases h1 : x0 = 1
  · subst h1
    go_enter Try.func33, Try.ntmps33
    go_wp2_with (go_at_call 56; refine (H56.out _).mono ?_; rintro e w1 ⟨rfl, hb⟩; obtain ⟨hc, hf⟩ := bcell hb; have hz := hb.size; simp only [World.size_alloc] at hz; have HB1 := Aside0.mk ((((Below.refl w.heap.size w).alloc (Nat.le_refl _) _).alloc (by simp) _).trans (hb.mono (by first | (simp; done) | (simp; omega)))); clear hb)
    all_goals (go_ret; refine ⟨?_, by repeat (first | exact HB1.out | refine Below.setCell ?_ (by first | (simp; done) | (simp; omega)) _)⟩; congr 2; first | rfl | (simp [wfB, bareB, HN.out, *]; done) | (simp [wfB, bareB, HN.out, *]; omega) | (simp [wfB, bareB, HN.out, Bool.and_assoc, *]; done))
  · skip
    by_cases h2 : x0 = 2
    · subst h2
      go_enter Try.func33, Try.ntmps33
      go_wp2_with (go_at_call 56; refine (H56.out _).mono ?_; rintro e w1 ⟨rfl, hb⟩; obtain ⟨hc, hf⟩ := bcell hb; have hz := hb.size; simp only [World.size_alloc] at hz; have HB1 := Aside0.mk ((((Below.refl w.heap.size w).alloc (Nat.le_refl _) _).alloc (by simp) _).trans (hb.mono (by first | (simp; done) | (simp; omega)))); clear hb)
      all_goals (go_ret; refine ⟨?_, by repeat (first | exact HB1.out | refine Below.setCell ?_ (by first | (simp; done) | (simp; omega)) _)⟩; congr 2; first | rfl | (simp [wfB, bareB, HN.out, *]; done) | (simp [wfB, bareB, HN.out, *]; omega) | (simp [wfB, bareB, HN.out, Bool.and_assoc, *]; done))
    · skip
      by_cases h3 : x0 = 3
      · subst h3
        go_enter Try.func33, Try.ntmps33
        go_wp2_with (go_at_call 56; refine (H56.out _).mono ?_; rintro e w1 ⟨rfl, hb⟩; obtain ⟨hc, hf⟩ := bcell hb; have hz := hb.size; simp only [World.size_alloc] at hz; have HB1 := Aside0.mk ((((Below.refl w.heap.size w).alloc (Nat.le_refl _) _).alloc (by simp) _).trans (hb.mono (by first | (simp; done) | (simp; omega)))); clear hb)
        all_goals (go_ret; refine ⟨?_, by repeat (first | exact HB1.out | refine Below.setCell ?_ (by first | (simp; done) | (simp; omega)) _)⟩; congr 2; first | rfl | (simp [wfB, bareB, HN.out, *]; done) | (simp [wfB, bareB, HN.out, *]; omega) | (simp [wfB, bareB, HN.out, Bool.and_assoc, *]; done))
      · skip
        by_cases h4 : x0 = 4
        · subst h4
          go_enter Try.func33, Try.ntmps33
          go_wp2_with (go_at_call 56; refine (H56.out _).mono ?_; rintro e w1 ⟨rfl, hb⟩; obtain ⟨hc, hf⟩ := bcell hb; have hz := hb.size; simp only [World.size_alloc] at hz; have HB1 := Aside0.mk ((((Below.refl w.heap.size w).alloc (Nat.le_refl _) _).alloc (by simp) _).trans (hb.mono (by first | (simp; done) | (simp; omega)))); clear hb)
          all_goals (go_ret; refine ⟨?_, by repeat (first | exact HB1.out | refine Below.setCell ?_ (by first | (simp; done) | (simp; omega)) _)⟩; congr 2; first | rfl | (simp [wfB, bareB, HN.out, *]; done) | (simp [wfB, bareB, HN.out, *]; omega) | (simp [wfB, bareB, HN.out, Bool.and_assoc, *]; done))
        · skip
          by_cases h5 : x0 = 5
          · subst h5
            go_enter Try.func33, Try.ntmps33
            go_wp2_with (go_at_call 56; refine (H56.out _).mono ?_; rintro e w1 ⟨rfl, hb⟩; obtain ⟨hc, hf⟩ := bcell hb; have hz := hb.size; simp only [World.size_alloc] at hz; have HB1 := Aside0.mk ((((Below.refl w.heap.size w).alloc (Nat.le_refl _) _).alloc (by simp) _).trans (hb.mono (by first | (simp; done) | (simp; omega)))); clear hb)
            all_goals (go_ret; refine ⟨?_, by repeat (first | exact HB1.out | refine Below.setCell ?_ (by first | (simp; done) | (simp; omega)) _)⟩; congr 2; first | rfl | (simp [wfB, bareB, HN.out, *]; done) | (simp [wfB, bareB, HN.out, *]; omega) | (simp [wfB, bareB, HN.out, Bool.and_assoc, *]; done))
          · skip
            by_cases h6 : x0 = 6
            · subst h6
              go_enter Try.func33, Try.ntmps33
              go_wp2_with (go_at_call 56; refine (H56.out _).mono ?_; rintro e w1 ⟨rfl, hb⟩; obtain ⟨hc, hf⟩ := bcell hb; have hz := hb.size; simp only [World.size_alloc] at hz; have HB1 := Aside0.mk ((((Below.refl w.heap.size w).alloc (Nat.le_refl _) _).alloc (by simp) _).trans (hb.mono (by first | (simp; done) | (simp; omega)))); clear hb)
              all_goals (go_ret; refine ⟨?_, by repeat (first | exact HB1.out | refine Below.setCell ?_ (by first | (simp; done) | (simp; omega)) _)⟩; congr 2; first | rfl | (simp [wfB, bareB, HN.out, *]; done) | (simp [wfB, bareB, HN.out, *]; omega) | (simp [wfB, bareB, HN.out, Bool.and_assoc, *]; done))
            · skip
              by_cases h7 : x0 = 7
              · subst h7
                go_enter Try.func33, Try.ntmps33
                go_wp2_with (go_at_call 56; refine (H56.out _).mono ?_; rintro e w1 ⟨rfl, hb⟩; obtain ⟨hc, hf⟩ := bcell hb; have hz := hb.size; simp only [World.size_alloc] at hz; have HB1 := Aside0.mk ((((Below.refl w.heap.size w).alloc (Nat.le_refl _) _).alloc (by simp) _).trans (hb.mono (by first | (simp; done) | (simp; omega)))); clear hb)
                all_goals (go_ret; refine ⟨?_, by repeat (first | exact HB1.out | refine Below.setCell ?_ (by first | (simp; done) | (simp; omega)) _)⟩; congr 2; first | rfl | (simp [wfB, bareB, HN.out, *]; done) | (simp [wfB, bareB, HN.out, *]; omega) | (simp [wfB, bareB, HN.out, Bool.and_assoc, *]; done))
              · skip
                have e1 : (x0 == 1) = false := by simp [h1]
                have e2 : (x0 == 2) = false := by simp [h2]
                have e3 : (x0 == 3) = false := by simp [h3]
                have e4 : (x0 == 4) = false := by simp [h4]
                have e5 : (x0 == 5) = false := by simp [h5]
                have e6 : (x0 == 6) = false := by simp [h6]
                have e7 : (x0 == 7) = false := by simp [h7]
                go_enter Try.func33, Try.ntmps33
                go_wp2_with (go_at_call 56; refine (H56.out _).mono ?_; rintro e w1 ⟨rfl, hb⟩; obtain ⟨hc, hf⟩ := bcell hb; have hz := hb.size; simp only [World.size_alloc] at hz; have HB1 := Aside0.mk ((((Below.refl w.heap.size w).alloc (Nat.le_refl _) _).alloc (by simp) _).trans (hb.mono (by first | (simp; done) | (simp; omega)))); clear hb)
                all_goals (go_ret; refine ⟨?_, by repeat (first | exact HB1.out | refine Below.setCell ?_ (by first | (simp; done) | (simp; omega)) _)⟩; congr 2; first | rfl | (simp [wfB, bareB, HN.out, *]; done) | (simp [wfB, bareB, HN.out, *]; omega) | (simp [wfB, bareB, HN.out, Bool.and_assoc, *]; done))
end Go.Proofs.Ytjeoabjccbinhaa.P
