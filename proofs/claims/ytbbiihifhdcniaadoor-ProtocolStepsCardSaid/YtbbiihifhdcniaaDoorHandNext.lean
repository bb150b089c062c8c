/- What 'protocol.Next' computes, by hand. -/
import Derived.Test.YtbbiihifhdcniaaDoorHandLeads
set_option linter.unusedVariables false
set_option linter.unusedSimpArgs false
namespace Go.Proofs.YtbbiihifhdcniaaDoor.Hand
open Go.RowKit Go.Maps

def nextR (s e : Int) : Int × Int := match nextO s e with | some t => (t, 0) | none => (0, 200)
theorem next_none (s e : Int) (hs : fitI s) (he : fitI e) (w : World) (h : nextO s e = none) : Calls Tryd.prog 5 #[.int .i64 s, .int .i64 e] w fun x w' => x = .returned (.tuple #[.int .i64 0, .int .i64 200]) ∧ Below w.heap.size w w' := by
  go_enter Tryd.func5, Tryd.ntmps5
  go_wp2_with (first
    | (go_at_call 21; refine (leads_core _).mono ?_; rintro x w1 ⟨rfl, ⟨D, n, hown, hn, hR⟩, hB⟩)
    | (at_lookup; refine wpList_lookup_own_ok_int _ rfl _ _ 42 rfl 45 3 .i64 lawStep underMap underInt (zeroInt _) w.heap.size n D rfl hown _ _ rfl (stepK_of hs he) ?_; intro c hat hwc; rw [(hR.2.1 s e hs he).1, h]; clear hat))
  go_ret2
  exact ⟨rfl, hB⟩
theorem next_some (s e t : Int) (hs : fitI s) (he : fitI e) (w : World) (h : nextO s e = some t) : Calls Tryd.prog 5 #[.int .i64 s, .int .i64 e] w fun x w' => x = .returned (.tuple #[.int .i64 t, .int .i64 0]) ∧ Below w.heap.size w w' := by
  go_enter Tryd.func5, Tryd.ntmps5
  go_wp2_with (first
    | (go_at_call 21; refine (leads_core _).mono ?_; rintro x w1 ⟨rfl, ⟨D, n, hown, hn, hR⟩, hB⟩)
    | (at_lookup; refine wpList_lookup_own_ok_int _ rfl _ _ 42 rfl 45 3 .i64 lawStep underMap underInt (zeroInt _) w.heap.size n D rfl hown _ _ rfl (stepK_of hs he) ?_; intro c hat hwc; rw [(hR.2.1 s e hs he).1, h]; rw [(hR.2.1 s e hs he).2, h] at hat; obtain rfl : t = c := by (simp at hat; exact hat)))
  go_ret2
  exact ⟨rfl, hB⟩
theorem next_core (s e : Int) (hs : fitI s) (he : fitI e) (w : World) : Calls Tryd.prog 5 #[.int .i64 s, .int .i64 e] w fun x w' => x = .returned (.tuple #[.int .i64 (nextR s e).1, .int .i64 (nextR s e).2]) ∧ Below w.heap.size w w' := by
  unfold nextR
  cases h : nextO s e with
  | none => exact next_none s e hs he w h
  | some t => exact next_some s e t hs he w h
instance (n : Int) : Decidable (fitI n) := inferInstanceAs (Decidable ((Lit.int .i64 n).wf = true))
def protocol_Next.f (a0 a1 : Int) : Option (Int × Int) := if fitI a0 ∧ fitI a1 then some (nextR a0 a1) else none
theorem protocol_Next.calls (a0 a1 : Int) (r1 r2 : Int) (w : World) (h : protocol_Next.f a0 a1 = some (r1, r2)) : Calls Tryd.prog 5 #[.int .i64 a0, .int .i64 a1] w fun e w' => e = .returned (.tuple #[.int .i64 r1, .int .i64 r2]) ∧ Below w.heap.size w w' := by
  unfold protocol_Next.f at h
  split at h
  · rename_i hf
    have h1 := Option.some.inj h
    have := next_core a0 a1 hf.1 hf.2 w
    rw [h1] at this
    exact this
  · cases h
end Go.Proofs.YtbbiihifhdcniaaDoor.Hand
