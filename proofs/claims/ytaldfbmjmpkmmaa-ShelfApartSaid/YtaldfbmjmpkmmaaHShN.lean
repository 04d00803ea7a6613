/- A shelf in memory: New. -/
import Derived.Test.YtaldfbmjmpkmmaaHShK
namespace Go.Proofs.Ytaldfbmjmpkmmaa.PL
open Go.RowKit Go.Proofs.YtaldfbmjmpkmmaaW.PrintWords Go.Proofs.YtaldfbmjmpkmmaaW.PrintLast Go.Proofs.YtaldfbmjmpkmmaaW.PrintMore Go.Shelf Go.Maps Go.WideMaps Go.Proofs.Ytaldfbmjmpkmmaa.Mk
set_option linter.unusedVariables false
set_option linter.unusedSimpArgs false
set_option linter.unusedSectionVars false

set_option maxRecDepth 100000 in
theorem new_walk (w : World) : Calls Try.prog 32 #[] w fun e w' => ∃ b, e = .returned (.pointer (some ⟨b, 0, none⟩)) ∧ ShAt w' (fun g => w.heap.size ≤ g) b 0 sh0 ∧ Below w.heap.size w w' := by
  have m1 := MapL.made Try.prog 9 w
  have m2 := MapL.made Try.prog 3 (w.alloc (.map #[] 0))
  have b1 := below_alloc (Below.refl _ (w.alloc (.map #[] 0))) (.map #[] 0)
  have b2 := below_alloc (Below.refl _ ((w.alloc (.map #[] 0)).alloc (.map #[] 0))) (.cells #[.map (some w.heap.size), .map (some (w.heap.size + 1)), .slice none 0 0, .int .i64 0] 78)
  have h1 := (m1.below b1).below b2
  have h2 := m2.below b2
  have hbx := blk_new ((w.alloc (.map #[] 0)).alloc (.map #[] 0)) (.cells #[.map (some w.heap.size), .map (some (w.heap.size + 1)), .slice none 0 0, .int .i64 0] 78)
  have hs : (w.alloc (.map #[] 0)).heap.size = w.heap.size + 1 := by simp
  have hs2 : ((w.alloc (.map #[] 0)).alloc (.map #[] 0)).heap.size = w.heap.size + 2 := by simp
  rw [hs] at h2
  rw [hs2] at hbx
  have H := Aside0.mk (And.intro h1 (And.intro h2 hbx))
  clear m1 m2 b1 b2 h1 h2 hbx hs hs2
  have hmm := @run_makeMap Try.prog
  go_enter Try.func32, Try.ntmps32
  go_wp2
  go_ret
  refine ⟨w.heap.size + 2, rfl, ⟨w.heap.size, w.heap.size + 1, .slice none 0 0, fun _ => none, fun _ => none, ?_⟩, below_alloc (below_alloc (below_alloc (Below.refl _ w) _) _) _⟩
  exact ⟨H.out.2.2, H.out.1, H.out.2.1, Kd.R_nil _ _ _ _ _, (fun q v hq => by cases hq), (fun k hk => by simp [sh0, keysK] at hk), (fun q v hq => by cases hq), (fun r hr => by simp [sh0] at hr), by omega, by omega, by omega, by omega, sh0_ok⟩
end Go.Proofs.Ytaldfbmjmpkmmaa.PL
