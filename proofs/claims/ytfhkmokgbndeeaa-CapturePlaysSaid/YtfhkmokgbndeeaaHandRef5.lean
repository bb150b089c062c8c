/- The reference's Copy. -/
import Derived.Test.YtfhkmokgbndeeaaHandRef4
import Derived.Deep.RegionLaw
set_option linter.unusedVariables false
set_option linter.unusedSimpArgs false
namespace Go.Proofs.Ytfhkmokgbndeeaa.Hand
open Go.RowKit Go.Proofs.Ytfhkmokgbndeeaa.Cap Go.Proofs.Ytfhkmokgbndeeaa.PA Go.Proofs.Ytfhkmokgbndeeaa.PB Go.Proofs.YtfhkmokgbndeeaaW.PrintWords Go.Proofs.YtfhkmokgbndeeaaW.PrintLast Go.Proofs.YtfhkmokgbndeeaaW.PrintMore
open Go.Proofs.Ytfhkmokgbndeeaa.PC (S68 k68 z68 rd_T68 at_T68 k68_mkM k68_open)
attribute [local go_sem] Oper.semAt_some

set_option maxRecDepth 100000 in
set_option maxHeartbeats 4000000 in
theorem rcopy_core (g base : Nat) (ok : Nat → Prop) (v : Value) (l : List S68) (hl : l.length ≤ 32) (w : World) (hR : RefAt w g base ok v l) :
    Calls Try.prog 30 #[.pointer (some ⟨g, 0, none⟩)] w fun e w' => e = .returned (.pointer (some ⟨w.heap.size, 0, none⟩)) ∧ (∃ v', RefAt w' w.heap.size w.heap.size (fun k => k ≠ w.heap.size) v' l) ∧ Below w.heap.size w w' := by
  obtain ⟨A, c, rfl⟩ := Kd.R_slice hR.row
  have hgl := hR.lt
  have hR1 := hR.below ((Below.refl _ _).alloc (Nat.le_refl _) (.cells #[.slice none 0 0] 54))
  have hB1 := (Below.refl w.heap.size w).alloc (Nat.le_refl _) (.cells #[.slice none 0 0] 54)
  have hx := heap_alloc_new w (.cells #[.slice none 0 0] 54)
  have hsz : (w.alloc (.cells #[.slice none 0 0] 54)).heap.size = w.heap.size + 1 := by simp
  go_enter Try.func30, Try.ntmps30
  go_upto_region 2 with (fail)
  generalize w.alloc (.cells #[.slice none 0 0] 54) = W1 at *
  obtain ⟨g2, hg2⟩ : ∃ g2, w.heap.size = g2 := ⟨_, rfl⟩
  have hc0 : W1.cell? ⟨g, 0, none⟩ = some (.slice A l.length c) := (blk_cell hR1.blk 0).trans rfl
  rw [hg2] at hx hsz hB1 ⊢
  have hc2 : W1.cell? ⟨g2, 0, none⟩ = some (.slice none 0 0) := (blk_cell hx 0).trans rfl
  go_region_law (first
    | (refine Kd.R_append_rows_step k68 (w0 := w) (Rr := k68.K W1.drew) g2 rfl (.tmp 10) (.tmp 14) 52 68 (.agg #[.int .i64 0, .int .i64 0, .int .i64 0]) 24 ?b1 ?b2 ?b3 ?b4 ?a1 ?a2 (.slice none 0 0) [] l A l.length c (fun k => k ≠ g2) (fun _ => False) ?a3 ?aX ?aO ?aR ?aK ?a4 ?aF ?aB ?aS ?aL ?_; (case b1 => exact rfl); (case b2 => exact under_ones); (case b4 => exact rfl); (case b3 => exact info_one); (case a1 => decide); (case a2 => omega); (case a3 => exact rfl); (case aX => exact rfl); (case aO => exact Kd.R_nil _ _ _ _ _); (case aR => exact (Kd.C_drew (Kd.R_reads' hR1.row).2.2)); (case aK => intro x cs h; obtain rfl := k68_open h; exact k68_mkM _ _ _ x); (case a4 => exact (fun _ hk => hk.elim)); (case aF => intro k hk; show k ≠ g2; have h1 : W1.heap.size ≤ k := hk; omega); (case aB => exact hB1.drew); (case aS => show g2 ≤ W1.heap.size; omega); (case aL => simp; omega); intro v69 w69 ho hb hg hat; obtain ⟨A9, c9, rfl⟩ := Kd.R_slice ho; have hby : w69.heap[g2]? = some (.cells #[.slice none 0 0] 54 (0, 0)) := (hg.block g2 (blk_lt hx) (by intro q; cases q)).trans hx; have hc9 : w69.cell? ⟨g2, 0, none⟩ = some (.slice none 0 0) := (blk_cell hby 0).trans rfl; have hf9 := blk_frozen hby 0))
  all_goals
    go_wp2
    go_ret
    rw [hg2]
    exact ⟨rfl, ⟨_, ⟨blk_put hby 0 _ rfl, Kd.R_far (p := ⟨g2, 0, none⟩) (show Kd.R k68 68 w69 g2 (fun k => k ≠ g2) (.slice A9 l.length c9) l from ho) (fun k hk e => hk e) _, fun h => h rfl⟩⟩, hb.setCell (p := ⟨g2, 0, none⟩) (Nat.le_refl g2) _⟩
end Go.Proofs.Ytfhkmokgbndeeaa.Hand
