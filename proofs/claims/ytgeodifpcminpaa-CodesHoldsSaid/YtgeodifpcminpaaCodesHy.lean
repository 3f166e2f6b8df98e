/- A part of the proof. -/
import Derived.Test.YtgeodifpcminpaaPgCodesHq
set_option linter.all false
open Go Go.Pw Go.Proofs
namespace Go.Pw
set_option linter.unusedSimpArgs false
set_option linter.unusedVariables false
set_option maxRecDepth 100000
set_option maxHeartbeats 6400000
abbrev tyR : KTy := (true, [some .i64, some .i64, none])
theorem lookK_run' (a z : Int) (o : Bool) (m : RMemo) : lookK (.agg [.int .i64 a, .int .i64 z, .bool o]) (memG m) = (lookG (a, z, o) m).map (.int .i64) := lookK_run (a, z, o) m
theorem runK_self (a z : Int) (o : Bool) : keyEq (.agg [.int .i64 a, .int .i64 z, .bool o]) (.agg [.int .i64 a, .int .i64 z, .bool o]) = true := (keyEq_run (a, z, o) (a, z, o)).trans (by simp)
theorem lookK_snoc' {k v : D} {l : List (D × D)} (h : lookK k l = none) (hk : keyEq k k = true) : lookK k (l ++ [(k, v)]) = some v := by
  induction l with
  | nil => simp [lookK, hk]
  | cons e l ih =>
    simp only [lookK] at h
    split at h
    · cases h
    · rename_i hne; simp only [List.cons_append, lookK, hne]; exact ih h
theorem idxK_none' {k : D} {l : List (D × D)} (h : lookK k l = none) : idxK k l = none := by
  induction l with
  | nil => rfl
  | cons e l ih =>
    simp only [lookK] at h
    split at h
    · cases h
    · rename_i hne; simp only [idxK, hne, ih h]; rfl
theorem memG_len (m : RMemo) : (memG m).length = m.length := by simp [memG]
theorem memG_snoc (m : RMemo) (a z : Int) (o : Bool) (v : Int) : memG m ++ [(.agg [.int .i64 a, .int .i64 z, .bool o], .int .i64 v)] = memG (m ++ [((a, z, o), v)]) := by simp [memG, gentD, runD, runC]
theorem setG_new {k : GRun} {m : RMemo} (h : lookG k m = none) (v : Int) : setG k v m = m ++ [(k, v)] := by
  induction m with
  | nil => rfl
  | cons e m ih =>
    rw [lookG] at h
    split at h
    · cases h
    · rename_i hne; rw [setG, if_neg hne, ih h]; rfl
theorem old_entry {k : GRun} {v : Int} : ∀ {m : RMemo}, lookG k m = some v → ∃ i, idxK (runD k) (memG m) = some i ∧ i < m.length ∧ (memG m)[i]? = some (runD k, .int .i64 v) ∧ ∀ v', (memG m).set i (runD k, .int .i64 v') = memG (setG k v' m)
  | [], h => by cases h
  | e :: m, h => by
    rw [lookG] at h
    by_cases he : k = e.1
    · rw [if_pos he] at h; cases h
      refine ⟨0, ?_, by simp, ?_, fun v' => ?_⟩
      · simp [memG, idxK, gentD, keyEq_run, he]
      · simp [memG, gentD, he]
      · simp [memG, setG, gentD, he]
    · rw [if_neg he] at h
      obtain ⟨i, h1, h2, h3, h4⟩ := old_entry h
      refine ⟨i + 1, ?_, by simp; omega, ?_, fun v' => ?_⟩
      · simp only [memG] at h1
        simp [memG, idxK, gentD, keyEq_run, he, h1]
      · simpa [memG] using h3
      · rw [setG, if_neg he]
        have := h4 v'
        simp only [memG] at this
        simp [memG, this]
/-- seen[now.run]++ -/
def anyR : PC :=
  .any [] (
          .both (
           .step ⟨some 48, none, .mov, [.t 8]⟩ (
            .step ⟨some 49, none, .faddr 0, [.t 10]⟩ (
             .step ⟨some 50, none, .load true 3, [.t 49]⟩ (
              .both (
               .step ⟨some 51, none, .lookup false (true, [some .i64, some .i64, none]) (.int .i64 0), [.t 48, .t 50]⟩ (
                .both (
                 .step ⟨some 52, none, .bin .add, [.t 51, .k (.d (.int .i64 1))]⟩ (
                  .step ⟨some 53, none, .mapent (true, [some .i64, some .i64, none]) (.int .i64 0), [.t 48, .t 50]⟩ (
                   .step ⟨some 54, none, .extract 1, [.t 53]⟩ (
                    .step ⟨none, none, .entst, [.t 48, .t 54, .t 52]⟩ (
                     .done))))) (
                 .step ⟨some 53, none, .mapent (true, [some .i64, some .i64, none]) (.int .i64 0), [.t 48, .t 50]⟩ (
                  .both (
                   .step ⟨some 52, none, .bin .add, [.t 51, .k (.d (.int .i64 1))]⟩ (
                    .step ⟨some 54, none, .extract 1, [.t 53]⟩ (
                     .step ⟨none, none, .entst, [.t 48, .t 54, .t 52]⟩ (
                      .done)))) (
                   .step ⟨some 54, none, .extract 1, [.t 53]⟩ (
                    .step ⟨some 52, none, .bin .add, [.t 51, .k (.d (.int .i64 1))]⟩ (
                     .step ⟨none, none, .entst, [.t 48, .t 54, .t 52]⟩ (
                      .done)))))))) (
               .step ⟨some 53, none, .mapent (true, [some .i64, some .i64, none]) (.int .i64 0), [.t 48, .t 50]⟩ (
                .both (
                 .step ⟨some 51, none, .lookup false (true, [some .i64, some .i64, none]) (.int .i64 0), [.t 48, .t 50]⟩ (
                  .both (
                   .step ⟨some 52, none, .bin .add, [.t 51, .k (.d (.int .i64 1))]⟩ (
                    .step ⟨some 54, none, .extract 1, [.t 53]⟩ (
                     .step ⟨none, none, .entst, [.t 48, .t 54, .t 52]⟩ (
                      .done)))) (
                   .step ⟨some 54, none, .extract 1, [.t 53]⟩ (
                    .step ⟨some 52, none, .bin .add, [.t 51, .k (.d (.int .i64 1))]⟩ (
                     .step ⟨none, none, .entst, [.t 48, .t 54, .t 52]⟩ (
                      .done)))))) (
                 .step ⟨some 54, none, .extract 1, [.t 53]⟩ (
                  .step ⟨some 51, none, .lookup false (true, [some .i64, some .i64, none]) (.int .i64 0), [.t 48, .t 50]⟩ (
                   .step ⟨some 52, none, .bin .add, [.t 51, .k (.d (.int .i64 1))]⟩ (
                    .step ⟨none, none, .entst, [.t 48, .t 54, .t 52]⟩ (
                     .done))))))))))) (
           .step ⟨some 49, none, .faddr 0, [.t 10]⟩ (
            .both (
             .step ⟨some 48, none, .mov, [.t 8]⟩ (
              .step ⟨some 50, none, .load true 3, [.t 49]⟩ (
               .both (
                .step ⟨some 51, none, .lookup false (true, [some .i64, some .i64, none]) (.int .i64 0), [.t 48, .t 50]⟩ (
                 .both (
                  .step ⟨some 52, none, .bin .add, [.t 51, .k (.d (.int .i64 1))]⟩ (
                   .step ⟨some 53, none, .mapent (true, [some .i64, some .i64, none]) (.int .i64 0), [.t 48, .t 50]⟩ (
                    .step ⟨some 54, none, .extract 1, [.t 53]⟩ (
                     .step ⟨none, none, .entst, [.t 48, .t 54, .t 52]⟩ (
                      .done))))) (
                  .step ⟨some 53, none, .mapent (true, [some .i64, some .i64, none]) (.int .i64 0), [.t 48, .t 50]⟩ (
                   .both (
                    .step ⟨some 52, none, .bin .add, [.t 51, .k (.d (.int .i64 1))]⟩ (
                     .step ⟨some 54, none, .extract 1, [.t 53]⟩ (
                      .step ⟨none, none, .entst, [.t 48, .t 54, .t 52]⟩ (
                       .done)))) (
                    .step ⟨some 54, none, .extract 1, [.t 53]⟩ (
                     .step ⟨some 52, none, .bin .add, [.t 51, .k (.d (.int .i64 1))]⟩ (
                      .step ⟨none, none, .entst, [.t 48, .t 54, .t 52]⟩ (
                       .done)))))))) (
                .step ⟨some 53, none, .mapent (true, [some .i64, some .i64, none]) (.int .i64 0), [.t 48, .t 50]⟩ (
                 .both (
                  .step ⟨some 51, none, .lookup false (true, [some .i64, some .i64, none]) (.int .i64 0), [.t 48, .t 50]⟩ (
                   .both (
                    .step ⟨some 52, none, .bin .add, [.t 51, .k (.d (.int .i64 1))]⟩ (
                     .step ⟨some 54, none, .extract 1, [.t 53]⟩ (
                      .step ⟨none, none, .entst, [.t 48, .t 54, .t 52]⟩ (
                       .done)))) (
                    .step ⟨some 54, none, .extract 1, [.t 53]⟩ (
                     .step ⟨some 52, none, .bin .add, [.t 51, .k (.d (.int .i64 1))]⟩ (
                      .step ⟨none, none, .entst, [.t 48, .t 54, .t 52]⟩ (
                       .done)))))) (
                  .step ⟨some 54, none, .extract 1, [.t 53]⟩ (
                   .step ⟨some 51, none, .lookup false (true, [some .i64, some .i64, none]) (.int .i64 0), [.t 48, .t 50]⟩ (
                    .step ⟨some 52, none, .bin .add, [.t 51, .k (.d (.int .i64 1))]⟩ (
                     .step ⟨none, none, .entst, [.t 48, .t 54, .t 52]⟩ (
                      .done)))))))))) (
             .step ⟨some 50, none, .load true 3, [.t 49]⟩ (
              .step ⟨some 48, none, .mov, [.t 8]⟩ (
               .both (
                .step ⟨some 51, none, .lookup false (true, [some .i64, some .i64, none]) (.int .i64 0), [.t 48, .t 50]⟩ (
                 .both (
                  .step ⟨some 52, none, .bin .add, [.t 51, .k (.d (.int .i64 1))]⟩ (
                   .step ⟨some 53, none, .mapent (true, [some .i64, some .i64, none]) (.int .i64 0), [.t 48, .t 50]⟩ (
                    .step ⟨some 54, none, .extract 1, [.t 53]⟩ (
                     .step ⟨none, none, .entst, [.t 48, .t 54, .t 52]⟩ (
                      .done))))) (
                  .step ⟨some 53, none, .mapent (true, [some .i64, some .i64, none]) (.int .i64 0), [.t 48, .t 50]⟩ (
                   .both (
                    .step ⟨some 52, none, .bin .add, [.t 51, .k (.d (.int .i64 1))]⟩ (
                     .step ⟨some 54, none, .extract 1, [.t 53]⟩ (
                      .step ⟨none, none, .entst, [.t 48, .t 54, .t 52]⟩ (
                       .done)))) (
                    .step ⟨some 54, none, .extract 1, [.t 53]⟩ (
                     .step ⟨some 52, none, .bin .add, [.t 51, .k (.d (.int .i64 1))]⟩ (
                      .step ⟨none, none, .entst, [.t 48, .t 54, .t 52]⟩ (
                       .done)))))))) (
                .step ⟨some 53, none, .mapent (true, [some .i64, some .i64, none]) (.int .i64 0), [.t 48, .t 50]⟩ (
                 .both (
                  .step ⟨some 51, none, .lookup false (true, [some .i64, some .i64, none]) (.int .i64 0), [.t 48, .t 50]⟩ (
                   .both (
                    .step ⟨some 52, none, .bin .add, [.t 51, .k (.d (.int .i64 1))]⟩ (
                     .step ⟨some 54, none, .extract 1, [.t 53]⟩ (
                      .step ⟨none, none, .entst, [.t 48, .t 54, .t 52]⟩ (
                       .done)))) (
                    .step ⟨some 54, none, .extract 1, [.t 53]⟩ (
                     .step ⟨some 52, none, .bin .add, [.t 51, .k (.d (.int .i64 1))]⟩ (
                      .step ⟨none, none, .entst, [.t 48, .t 54, .t 52]⟩ (
                       .done)))))) (
                  .step ⟨some 54, none, .extract 1, [.t 53]⟩ (
                   .step ⟨some 51, none, .lookup false (true, [some .i64, some .i64, none]) (.int .i64 0), [.t 48, .t 50]⟩ (
                    .step ⟨some 52, none, .bin .add, [.t 51, .k (.d (.int .i64 1))]⟩ (
                     .step ⟨none, none, .entst, [.t 48, .t 54, .t 52]⟩ (
                      .done))))))))))))) [3, 5, 7, 8, 10]
attribute [local congr] cg_pw cg_seqI cg_seqE cg_stepI cg_ev cg_evBin cg_condB cg_condV cg_thenQ cg_blockQ cg_onSome cg_onCells cg_onRow cg_onMap cg_onOpt cg_ghosts cg_ghost cg_evCall cg_part cg_rng cg_guardV cg_frzV cg_frpV cg_ownV cg_owcV cg_occV cg_occX cg_resK cg_res1 cg_yldP cg_rndE cg_onlyN cg_onHist
attribute [local irreducible] IntKind.wrap bitsOp Option.getD and or

theorem anyR_new {P : PExit → PSt → Prop} {q1 q2 : List D} {a z s0 : Int} {o : Bool} {dd : D} {x3 x5 x10 : List AV} {m : RMemo} (hm : m.length ≤ 1000) (hl : lookG (a, z, o) m = none)
    (hk : P .normal ⟨look [(3, .ptr 3 0 0), (5, .ptr 5 0 0), (7, .own 38 1), (8, .map 23 0), (10, .ptr 10 1 0)], ⟨lookO [(23, (0, .map tyR (memG (m ++ [((a, z, o), 1)])))), (23, (0, .map tyR (memG (m ++ [((a, z, o), 0)])))), (38, (1, .row 101 5 false q1)), (10, (1, .cells [.d (.int .i64 a), .d (.int .i64 z), .d (.bool o), .d (.int .i64 s0), .d dd])), (10, (1, .cells x10)), (3, (0, .cells x3)), (5, (0, .cells x5)), (23, (0, .map tyR (memG m))), (38, (0, .row 101 5 false q2))], upd (upd (fun _ => 1) 10 2) 38 2⟩⟩) :
    pw E0 anyR P ⟨look [(3, .ptr 3 0 0), (5, .ptr 5 0 0), (7, .own 38 1), (8, .map 23 0), (10, .ptr 10 1 0)], ⟨lookO [(38, (1, .row 101 5 false q1)), (10, (1, .cells [.d (.int .i64 a), .d (.int .i64 z), .d (.bool o), .d (.int .i64 s0), .d dd])), (10, (1, .cells x10)), (3, (0, .cells x3)), (5, (0, .cells x5)), (23, (0, .map tyR (memG m))), (38, (0, .row 101 5 false q2))], upd (upd (fun _ => 1) 10 2) 38 2⟩⟩ := by
  have h1 := lookK_run' a z o m
  rw [hl] at h1
  have h1' : lookK (.agg [.int .i64 a, .int .i64 z, .bool o]) (memG m) = none := h1
  have h2 := idxK_none' h1'
  have h3 := lookK_snoc' (v := .int .i64 0) h1' (runK_self a z o)
  have h4 : (memG m ++ [(D.agg [.int .i64 a, .int .i64 z, .bool o], D.int .i64 0)])[(memG m).length]? = some (D.agg [.int .i64 a, .int .i64 z, .bool o], D.int .i64 0) := by simp
  have h5 : (memG m ++ [(D.agg [.int .i64 a, .int .i64 z, .bool o], D.int .i64 0)]).set (memG m).length (D.agg [.int .i64 a, .int .i64 z, .bool o], D.int .i64 1) = memG (m ++ [((a, z, o), 1)]) := by rw [← memG_snoc]; simp
  have h6 := memG_len m
  have w1 : IntKind.i64.wrap (0 + 1) = 1 := wrapI _ (by omega)
  rw [← memG_snoc m a z o 0] at hk
  unfold anyR
  (try (simp -implicitDefEqProofs only [go_sem, h1', h2, h3, h4, h5, w1])); repeat' first | with_reducible exact True.intro | with_reducible refine And.intro ?_ ?_ | with_reducible intro _ | (((with_reducible refine vc_b ?_ ?_) <;> intro _) <;> try (simp -implicitDefEqProofs only [go_sem, h1', h2, h3, h4, h5, w1])) | simp (disch := omega) only [wrapI, wrapU, shl1, shl1', shl1'', shrN, shrN', and_one] 
  all_goals first | omega | exact hk | (rw [h5]; exact hk) | trace_state

theorem anyR_old {P : PExit → PSt → Prop} {q1 q2 : List D} {a z s0 : Int} {o : Bool} {dd : D} {x3 x5 x10 : List AV} {m : RMemo} (hm : m.length ≤ 1000) {v : Int} (hv : 1 ≤ v ∧ v ≤ 1000) (hl : lookG (a, z, o) m = some v)
    (hk : P .normal ⟨look [(3, .ptr 3 0 0), (5, .ptr 5 0 0), (7, .own 38 1), (8, .map 23 0), (10, .ptr 10 1 0)], ⟨lookO [(23, (0, .map tyR (memG (setG (a, z, o) (v + 1) m)))), (38, (1, .row 101 5 false q1)), (10, (1, .cells [.d (.int .i64 a), .d (.int .i64 z), .d (.bool o), .d (.int .i64 s0), .d dd])), (10, (1, .cells x10)), (3, (0, .cells x3)), (5, (0, .cells x5)), (23, (0, .map tyR (memG m))), (38, (0, .row 101 5 false q2))], upd (upd (fun _ => 1) 10 2) 38 2⟩⟩) :
    pw E0 anyR P ⟨look [(3, .ptr 3 0 0), (5, .ptr 5 0 0), (7, .own 38 1), (8, .map 23 0), (10, .ptr 10 1 0)], ⟨lookO [(38, (1, .row 101 5 false q1)), (10, (1, .cells [.d (.int .i64 a), .d (.int .i64 z), .d (.bool o), .d (.int .i64 s0), .d dd])), (10, (1, .cells x10)), (3, (0, .cells x3)), (5, (0, .cells x5)), (23, (0, .map tyR (memG m))), (38, (0, .row 101 5 false q2))], upd (upd (fun _ => 1) 10 2) 38 2⟩⟩ := by
  have h1 := lookK_run' a z o m
  rw [hl] at h1
  have h1' : lookK (.agg [.int .i64 a, .int .i64 z, .bool o]) (memG m) = some (.int .i64 v) := h1
  obtain ⟨i, h2, h3, h4, h5⟩ := old_entry hl
  have h2' : idxK (.agg [.int .i64 a, .int .i64 z, .bool o]) (memG m) = some i := h2
  have h4' : (memG m)[i]? = some (.agg [.int .i64 a, .int .i64 z, .bool o], .int .i64 v) := h4
  have h5' : (memG m).set i (.agg [.int .i64 a, .int .i64 z, .bool o], .int .i64 (v + 1)) = memG (setG (a, z, o) (v + 1) m) := h5 (v + 1)
  have h6 := memG_len m
  have w1 : IntKind.i64.wrap (v + 1) = v + 1 := wrapI _ (by omega)
  unfold anyR
  (try (simp -implicitDefEqProofs only [go_sem, h1', h2', h4', h5', w1])); repeat' first | with_reducible exact True.intro | with_reducible refine And.intro ?_ ?_ | with_reducible intro _ | (((with_reducible refine vc_b ?_ ?_) <;> intro _) <;> try (simp -implicitDefEqProofs only [go_sem, h1', h2', h4', h5', w1])) | simp (disch := omega) only [wrapI, wrapU, shl1, shl1', shl1'', shrN, shrN', and_one] 
  all_goals first | omega | exact hk | (rw [h5']; exact hk) | trace_state
end Go.Pw
