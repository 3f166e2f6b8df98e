/- A part of the proof. -/
import Derived.Test.YtlnppoaghpbpoaaServoK
set_option linter.all false
open Go Go.Pw Go.Proofs
namespace Go.Pw
set_option linter.unusedSimpArgs false
set_option linter.unusedVariables false
set_option maxRecDepth 100000
set_option maxHeartbeats 1600000
attribute [local congr] cg_pw cg_seqI cg_seqE cg_stepI cg_ev cg_evBin cg_condB cg_condV cg_thenQ cg_blockQ cg_onSome cg_onCells cg_onRow cg_onMap cg_onOpt cg_ghosts cg_ghost cg_evCall cg_part cg_rng cg_guardV cg_frzV cg_frpV cg_ownV cg_owcV cg_occV cg_occX cg_resK cg_res1
attribute [local irreducible] IntKind.wrap bitsOp Option.getD and or

theorem sn_ptr {V : View} {o g : Nat} : AV.snap V (.ptr o g 0) = match V.get o g with
    | some (.cells xs) => match listM AV.toD1 xs with | some (c :: l) => some (.ptr (c :: l)) | _ => none
    | _ => none := rfl
theorem check_zero {s : GServo} {l : List Pair} (h : s.check l = 0) : s.ok = true ∧ l.all wedgeOk = true ∧ l.length ≤ 24 := by
  unfold GServo.check at h
  split at h
  · omega
  · rename_i h1
    split at h
    · omega
    · rename_i h2
      simp at h1 h2
      exact ⟨h1, by simpa using h2.2, h2.1⟩

theorem servo_open_ok (s : GServo) (nl : Bool) (l : List Pair) (h : s.check l = 0) :
    Ret E0 F_servo_open [servoD s, .list nl (pairsD l)] (.tup [.ptr (headC s nl l), .int .i64 0]) := by
  refine ret_of_pw dec_servo_open mixed (by simp) fun hwf => ?_
  have c1 := servo_Check_ret s nl l
  rw [h] at c1
  obtain ⟨hok, _, _⟩ := check_zero h
  have hd := GServo.ok_head hok
  have hb := last_bound hok
  have w1 : IntKind.i64.wrap (s.tracks - 1) = s.tracks - 1 := wrapI _ (by omega)
  have w2 : IntKind.i64.wrap (s.step * (s.tracks - 1)) = s.step * (s.tracks - 1) := wrapI _ (by unfold GServo.last at hb; omega)
  have hls : s.step * (s.tracks - 1) = s.last := rfl
  rw [servoD_eq, servoC_eq] at c1
  rw [enter_eq]; unfold pc_servo_open
  (try (simp -implicitDefEqProofs only [go_sem, servoD_eq, servoC_eq, w1, w2, hls, headC_eq, sn_ptr])); repeat' first | with_reducible exact True.intro | with_reducible refine And.intro ?_ ?_ | with_reducible intro _ | (((with_reducible refine isCall ?_); first | refine call_b (c1) rfl ?_ ?_ | refine call_d (c1) rfl ?_ | refine call_sb (c1) rfl ?_ ?_ | refine call_s (c1) rfl rfl ?_) <;> try (simp -implicitDefEqProofs only [go_sem, servoD_eq, servoC_eq, w1, w2, hls, headC_eq, sn_ptr])) | (((with_reducible refine vc_b ?_ ?_) <;> intro _) <;> try (simp -implicitDefEqProofs only [go_sem, servoD_eq, servoC_eq, w1, w2, hls, headC_eq, sn_ptr])) | simp (disch := omega) only [wrapI, wrapU, shl1, shl1', shl1'', shrN, shrN', and_one] 
  all_goals first | omega | (simp; done) | (simp; omega) | skip

theorem servo_open_bad (s : GServo) (nl : Bool) (l : List Pair) (h : ¬ s.check l = 0) :
    Ret E0 F_servo_open [servoD s, .list nl (pairsD l)] (.tup [.nilptr, .int .i64 (s.check l)]) := by
  refine ret_of_pw dec_servo_open mixed (by simp) fun hwf => ?_
  have c1 := servo_Check_ret s nl l
  rw [servoD_eq, servoC_eq] at c1
  rw [enter_eq]; unfold pc_servo_open
  (try (simp -implicitDefEqProofs only [go_sem, servoD_eq, servoC_eq, h])); repeat' first | with_reducible exact True.intro | with_reducible refine And.intro ?_ ?_ | with_reducible intro _ | (((with_reducible refine isCall ?_); first | refine call_b (c1) rfl ?_ ?_ | refine call_d (c1) rfl ?_ | refine call_sb (c1) rfl ?_ ?_ | refine call_s (c1) rfl rfl ?_) <;> try (simp -implicitDefEqProofs only [go_sem, servoD_eq, servoC_eq, h])) | (((with_reducible refine vc_b ?_ ?_) <;> intro _) <;> try (simp -implicitDefEqProofs only [go_sem, servoD_eq, servoC_eq, h])) | simp (disch := omega) only [wrapI, wrapU, shl1, shl1', shl1'', shrN, shrN', and_one] 
  all_goals first | omega | (simp; done) | (simp; omega) | skip

def GServo.known (s : GServo) (l : List Pair) (told : Bool) : Int :=
  if s.check l = 0 then (if told then (if s.wrong < minL (s.endL l) then 3 else 0) else 1) else s.check l
theorem known_zero {s : GServo} {l : List Pair} {told : Bool} (h : s.known l told = 0) : s.check l = 0 ∧ told = true ∧ ¬ s.wrong < minL (s.endL l) := by
  unfold GServo.known at h
  split at h
  · split at h
    · split at h
      · omega
      · exact ⟨by assumption, by assumption, by assumption⟩
    · omega
  · exact absurd h (by assumption)

theorem servo_known_ok (s : GServo) (nl : Bool) (l : List Pair) (told : Bool) (h : s.known l told = 0) :
    Ret E0 F_servo_known [servoD s, .list nl (pairsD l), .bool told] (.tup [.ptr (headC s nl l), .int .i64 0]) := by
  refine ret_of_pw dec_servo_known mixed (by simp) fun hwf => ?_
  obtain ⟨hc, ht, hm⟩ := known_zero h
  subst ht
  have c1 := servo_open_ok s nl l hc
  obtain ⟨hok, ha, h24⟩ := check_zero hc
  have hd := GServo.ok_head hok
  have hz := endL_len hok l
  have hb := last_bound hok
  have c2 := servo_end_ret s hok nl l ha h24
  have c3 := slices_Min_ret false (s.endL l) (by omega)
  rw [servoD_eq, servoC_eq] at c1
  rw [headC_eq] at c1 c2
  rw [enter_eq]; unfold pc_servo_known
  (try (simp -implicitDefEqProofs only [go_sem, servoD_eq, servoC_eq, headC_eq, hm])); repeat' first | with_reducible exact True.intro | with_reducible refine And.intro ?_ ?_ | with_reducible intro _ | (((with_reducible refine isCall ?_); first | refine call_b (c1) rfl ?_ ?_ | refine call_d (c1) rfl ?_ | refine call_sb (c1) rfl ?_ ?_ | refine call_s (c1) rfl rfl ?_ | refine call_b (c2) rfl ?_ ?_ | refine call_d (c2) rfl ?_ | refine call_sb (c2) rfl ?_ ?_ | refine call_s (c2) rfl rfl ?_ | refine call_b (c3) rfl ?_ ?_ | refine call_d (c3) rfl ?_ | refine call_sb (c3) rfl ?_ ?_ | refine call_s (c3) rfl rfl ?_) <;> try (simp -implicitDefEqProofs only [go_sem, servoD_eq, servoC_eq, headC_eq, hm])) | (((with_reducible refine vc_b ?_ ?_) <;> intro _) <;> try (simp -implicitDefEqProofs only [go_sem, servoD_eq, servoC_eq, headC_eq, hm])) | simp (disch := omega) only [wrapI, wrapU, shl1, shl1', shl1'', shrN, shrN', and_one] 
  all_goals first | omega | (simp; done) | (simp; omega) | skip

theorem servo_known_bad (s : GServo) (nl : Bool) (l : List Pair) (told : Bool) (h : ¬ s.known l told = 0) :
    Ret E0 F_servo_known [servoD s, .list nl (pairsD l), .bool told] (.tup [.nilptr, .int .i64 (s.known l told)]) := by
  refine ret_of_pw dec_servo_known mixed (by simp) fun hwf => ?_
  rw [enter_eq]; unfold pc_servo_known
  by_cases hc : s.check l = 0
  · have c1 := servo_open_ok s nl l hc
    obtain ⟨hok, ha, h24⟩ := check_zero hc
    have hd := GServo.ok_head hok
    have hz := endL_len hok l
    have hb := last_bound hok
    have c2 := servo_end_ret s hok nl l ha h24
    have c3 := slices_Min_ret false (s.endL l) (by omega)
    rw [servoD_eq, servoC_eq] at c1
    rw [headC_eq] at c1 c2
    cases told with
    | false =>
      have hk : s.known l false = 1 := by simp [GServo.known, hc]
      rw [hk]
      (try (simp -implicitDefEqProofs only [go_sem, servoD_eq, servoC_eq, headC_eq])); repeat' first | with_reducible exact True.intro | with_reducible refine And.intro ?_ ?_ | with_reducible intro _ | (((with_reducible refine isCall ?_); first | refine call_b (c1) rfl ?_ ?_ | refine call_d (c1) rfl ?_ | refine call_sb (c1) rfl ?_ ?_ | refine call_s (c1) rfl rfl ?_ | refine call_b (c2) rfl ?_ ?_ | refine call_d (c2) rfl ?_ | refine call_sb (c2) rfl ?_ ?_ | refine call_s (c2) rfl rfl ?_ | refine call_b (c3) rfl ?_ ?_ | refine call_d (c3) rfl ?_ | refine call_sb (c3) rfl ?_ ?_ | refine call_s (c3) rfl rfl ?_) <;> try (simp -implicitDefEqProofs only [go_sem, servoD_eq, servoC_eq, headC_eq])) | (((with_reducible refine vc_b ?_ ?_) <;> intro _) <;> try (simp -implicitDefEqProofs only [go_sem, servoD_eq, servoC_eq, headC_eq])) | simp (disch := omega) only [wrapI, wrapU, shl1, shl1', shl1'', shrN, shrN', and_one] 
      all_goals first | omega | (simp; done) | (simp; omega) | skip
    | true =>
      have hm : s.wrong < minL (s.endL l) := by
        rcases Classical.em (s.wrong < minL (s.endL l)) with h1 | h1
        · exact h1
        · exact absurd (by simp [GServo.known, hc, h1]) h
      have hk : s.known l true = 3 := by simp [GServo.known, hc, hm]
      rw [hk]
      (try (simp -implicitDefEqProofs only [go_sem, servoD_eq, servoC_eq, headC_eq, hm])); repeat' first | with_reducible exact True.intro | with_reducible refine And.intro ?_ ?_ | with_reducible intro _ | (((with_reducible refine isCall ?_); first | refine call_b (c1) rfl ?_ ?_ | refine call_d (c1) rfl ?_ | refine call_sb (c1) rfl ?_ ?_ | refine call_s (c1) rfl rfl ?_ | refine call_b (c2) rfl ?_ ?_ | refine call_d (c2) rfl ?_ | refine call_sb (c2) rfl ?_ ?_ | refine call_s (c2) rfl rfl ?_ | refine call_b (c3) rfl ?_ ?_ | refine call_d (c3) rfl ?_ | refine call_sb (c3) rfl ?_ ?_ | refine call_s (c3) rfl rfl ?_) <;> try (simp -implicitDefEqProofs only [go_sem, servoD_eq, servoC_eq, headC_eq, hm])) | (((with_reducible refine vc_b ?_ ?_) <;> intro _) <;> try (simp -implicitDefEqProofs only [go_sem, servoD_eq, servoC_eq, headC_eq, hm])) | simp (disch := omega) only [wrapI, wrapU, shl1, shl1', shl1'', shrN, shrN', and_one] 
      all_goals first | omega | (simp; done) | (simp; omega) | skip
  · have c1 := servo_open_bad s nl l hc
    have hk : s.known l told = s.check l := by simp [GServo.known, hc]
    rw [hk]
    rw [servoD_eq, servoC_eq] at c1
    (try (simp -implicitDefEqProofs only [go_sem, servoD_eq, servoC_eq, hc])); repeat' first | with_reducible exact True.intro | with_reducible refine And.intro ?_ ?_ | with_reducible intro _ | (((with_reducible refine isCall ?_); first | refine call_b (c1) rfl ?_ ?_ | refine call_d (c1) rfl ?_ | refine call_sb (c1) rfl ?_ ?_ | refine call_s (c1) rfl rfl ?_) <;> try (simp -implicitDefEqProofs only [go_sem, servoD_eq, servoC_eq, hc])) | (((with_reducible refine vc_b ?_ ?_) <;> intro _) <;> try (simp -implicitDefEqProofs only [go_sem, servoD_eq, servoC_eq, hc])) | simp (disch := omega) only [wrapI, wrapU, shl1, shl1', shl1'', shrN, shrN', and_one] 
    all_goals first | omega | (simp; done) | (simp; omega) | skip

theorem servo_Ahead_ok (s : GServo) (nl : Bool) (l : List Pair) (more : Int) (h : s.known l (inR more 0 24) = 0) :
    Ret E0 F_servo_Ahead [servoD s, .list nl (pairsD l), .int .i64 more] (.tup [.list (s.laterL l more).isEmpty (pairsD (s.laterL l more)), .int .i64 0]) := by
  refine ret_of_pw dec_servo_Ahead mixed (by simp) fun hwf => ?_
  have c1 := servo_known_ok s nl l _ h
  obtain ⟨hc, ht, hm⟩ := known_zero h
  obtain ⟨hok, ha, h24⟩ := check_zero hc
  have c0 := servo_within_ret more 0 24
  have c2 := servo_later_ret s hok nl l ha h24 more (by simpa [inR] using ht)
  rw [ht] at c1 c0
  rw [servoD_eq, servoC_eq] at c1
  rw [enter_eq]; unfold pc_servo_Ahead
  (try (simp -implicitDefEqProofs only [go_sem, servoD_eq, servoC_eq])); repeat' first | with_reducible exact True.intro | with_reducible refine And.intro ?_ ?_ | with_reducible intro _ | (((with_reducible refine isCall ?_); first | refine call_b (c0) rfl ?_ ?_ | refine call_d (c0) rfl ?_ | refine call_sb (c0) rfl ?_ ?_ | refine call_s (c0) rfl rfl ?_ | refine call_b (c1) rfl ?_ ?_ | refine call_d (c1) rfl ?_ | refine call_sb (c1) rfl ?_ ?_ | refine call_s (c1) rfl rfl ?_ | refine call_b (c2) rfl ?_ ?_ | refine call_d (c2) rfl ?_ | refine call_sb (c2) rfl ?_ ?_ | refine call_s (c2) rfl rfl ?_) <;> try (simp -implicitDefEqProofs only [go_sem, servoD_eq, servoC_eq])) | (((with_reducible refine vc_b ?_ ?_) <;> intro _) <;> try (simp -implicitDefEqProofs only [go_sem, servoD_eq, servoC_eq])) | simp (disch := omega) only [wrapI, wrapU, shl1, shl1', shl1'', shrN, shrN', and_one] 
  all_goals first | omega | (simp; done) | (simp; omega) | skip
theorem servo_Ahead_bad (s : GServo) (nl : Bool) (l : List Pair) (more : Int) (h : ¬ s.known l (inR more 0 24) = 0) :
    Ret E0 F_servo_Ahead [servoD s, .list nl (pairsD l), .int .i64 more] (.tup [.list true [], .int .i64 (s.known l (inR more 0 24))]) := by
  refine ret_of_pw dec_servo_Ahead mixed (by simp) fun hwf => ?_
  have c1 := servo_known_bad s nl l _ h
  have c0 := servo_within_ret more 0 24
  rw [servoD_eq, servoC_eq] at c1
  rw [enter_eq]; unfold pc_servo_Ahead
  generalize inR more 0 24 = b at *
  cases b <;> ((try (simp -implicitDefEqProofs only [go_sem, servoD_eq, servoC_eq, h])); repeat' first | with_reducible exact True.intro | with_reducible refine And.intro ?_ ?_ | with_reducible intro _ | (((with_reducible refine isCall ?_); first | refine call_b (c0) rfl ?_ ?_ | refine call_d (c0) rfl ?_ | refine call_sb (c0) rfl ?_ ?_ | refine call_s (c0) rfl rfl ?_ | refine call_b (c1) rfl ?_ ?_ | refine call_d (c1) rfl ?_ | refine call_sb (c1) rfl ?_ ?_ | refine call_s (c1) rfl rfl ?_) <;> try (simp -implicitDefEqProofs only [go_sem, servoD_eq, servoC_eq, h])) | (((with_reducible refine vc_b ?_ ?_) <;> intro _) <;> try (simp -implicitDefEqProofs only [go_sem, servoD_eq, servoC_eq, h])) | simp (disch := omega) only [wrapI, wrapU, shl1, shl1', shl1'', shrN, shrN', and_one] )
  all_goals first | omega | (simp; done) | (simp; omega) | skip
/-- What Ahead and Where return. -/
def GServo.ahead (s : GServo) (l : List Pair) (more : Int) : List Pair × Int := if s.known l (inR more 0 24) = 0 then (s.laterL l more, 0) else ([], s.known l (inR more 0 24))
theorem servo_Ahead_ret (s : GServo) (nl : Bool) (l : List Pair) (more : Int) :
    Ret E0 F_servo_Ahead [servoD s, .list nl (pairsD l), .int .i64 more] (.tup [.list (s.ahead l more).1.isEmpty (pairsD (s.ahead l more).1), .int .i64 (s.ahead l more).2]) := by
  by_cases h : s.known l (inR more 0 24) = 0
  · have := servo_Ahead_ok s nl l more h
    simp only [GServo.ahead, h, if_true]; exact this
  · have := servo_Ahead_bad s nl l more h
    simp only [GServo.ahead, h, if_false]; exact this
theorem servo_Where_ret (s : GServo) (nl : Bool) (l : List Pair) :
    Ret E0 F_servo_Where [servoD s, .list nl (pairsD l)] (.tup [.list (s.ahead l 0).1.isEmpty (pairsD (s.ahead l 0).1), .int .i64 (s.ahead l 0).2]) := by
  refine ret_of_pw dec_servo_Where mixed (by simp) fun hwf => ?_
  have c1 := servo_Ahead_ret s nl l 0
  generalize s.ahead l 0 = r at *
  rw [servoD_eq, servoC_eq] at c1
  rw [enter_eq]; unfold pc_servo_Where
  (try (simp -implicitDefEqProofs only [go_sem, servoD_eq, servoC_eq])); repeat' first | with_reducible exact True.intro | with_reducible refine And.intro ?_ ?_ | with_reducible intro _ | (((with_reducible refine isCall ?_); first | refine call_b (c1) rfl ?_ ?_ | refine call_d (c1) rfl ?_ | refine call_sb (c1) rfl ?_ ?_ | refine call_s (c1) rfl rfl ?_) <;> try (simp -implicitDefEqProofs only [go_sem, servoD_eq, servoC_eq])) | (((with_reducible refine vc_b ?_ ?_) <;> intro _) <;> try (simp -implicitDefEqProofs only [go_sem, servoD_eq, servoC_eq])) | simp (disch := omega) only [wrapI, wrapU, shl1, shl1', shl1'', shrN, shrN', and_one] 
  all_goals first | omega | (simp; done) | (simp; omega) | skip
def GServo.fewest (s : GServo) (l : List Pair) : Int × Int := if s.check l = 0 then (minL (s.endL l), 0) else (0, s.check l)
theorem servo_Fewest_ret (s : GServo) (nl : Bool) (l : List Pair) :
    Ret E0 F_servo_Fewest [servoD s, .list nl (pairsD l)] (.tup [.int .i64 (s.fewest l).1, .int .i64 (s.fewest l).2]) := by
  refine ret_of_pw dec_servo_Fewest mixed (by simp) fun hwf => ?_
  rw [enter_eq]; unfold pc_servo_Fewest
  by_cases hc : s.check l = 0
  · have c1 := servo_open_ok s nl l hc
    obtain ⟨hok, ha, h24⟩ := check_zero hc
    have hz := endL_len hok l
    have hb := last_bound hok
    have c2 := servo_end_ret s hok nl l ha h24
    have c3 := slices_Min_ret false (s.endL l) (by omega)
    rw [servoD_eq, servoC_eq] at c1
    simp only [GServo.fewest, hc, if_true]
    (try (simp -implicitDefEqProofs only [go_sem, servoD_eq, servoC_eq])); repeat' first | with_reducible exact True.intro | with_reducible refine And.intro ?_ ?_ | with_reducible intro _ | (((with_reducible refine isCall ?_); first | refine call_b (c1) rfl ?_ ?_ | refine call_d (c1) rfl ?_ | refine call_sb (c1) rfl ?_ ?_ | refine call_s (c1) rfl rfl ?_ | refine call_b (c2) rfl ?_ ?_ | refine call_d (c2) rfl ?_ | refine call_sb (c2) rfl ?_ ?_ | refine call_s (c2) rfl rfl ?_ | refine call_b (c3) rfl ?_ ?_ | refine call_d (c3) rfl ?_ | refine call_sb (c3) rfl ?_ ?_ | refine call_s (c3) rfl rfl ?_) <;> try (simp -implicitDefEqProofs only [go_sem, servoD_eq, servoC_eq])) | (((with_reducible refine vc_b ?_ ?_) <;> intro _) <;> try (simp -implicitDefEqProofs only [go_sem, servoD_eq, servoC_eq])) | simp (disch := omega) only [wrapI, wrapU, shl1, shl1', shl1'', shrN, shrN', and_one] 
    all_goals first | omega | (simp; done) | (simp; omega) | skip
  · have c1 := servo_open_bad s nl l hc
    rw [servoD_eq, servoC_eq] at c1
    simp only [GServo.fewest, hc, if_false]
    (try (simp -implicitDefEqProofs only [go_sem, servoD_eq, servoC_eq, hc])); repeat' first | with_reducible exact True.intro | with_reducible refine And.intro ?_ ?_ | with_reducible intro _ | (((with_reducible refine isCall ?_); first | refine call_b (c1) rfl ?_ ?_ | refine call_d (c1) rfl ?_ | refine call_sb (c1) rfl ?_ ?_ | refine call_s (c1) rfl rfl ?_) <;> try (simp -implicitDefEqProofs only [go_sem, servoD_eq, servoC_eq, hc])) | (((with_reducible refine vc_b ?_ ?_) <;> intro _) <;> try (simp -implicitDefEqProofs only [go_sem, servoD_eq, servoC_eq, hc])) | simp (disch := omega) only [wrapI, wrapU, shl1, shl1', shl1'', shrN, shrN', and_one] 
    all_goals first | omega | (simp; done) | (simp; omega) | skip
end Go.Pw
