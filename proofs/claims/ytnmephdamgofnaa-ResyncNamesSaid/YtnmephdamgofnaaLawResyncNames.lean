import Derived.Test.YtnmephdamgofnaaHandTrim
import Derived.Test.YtnmephdamgofnaaPBx2
import Derived.Test.YtnmephdamgofnaaPBx3
import Derived.Test.YtnmephdamgofnaaPBx4
import Derived.Test.YtnmephdamgofnaaHandFold
import Derived.Test.YtnmephdamgofnaaPMx2
import Derived.Test.YtnmephdamgofnaaRows
import Derived.WalkKit
import Derived.ProofKit
import Derived.OpenShut
import Derived.ShutString
import Derived.ChangeOld
import Derived.Below
import Derived.SizedLaws
/- The k-th of some numbers, by how many are at most a number; trimmed values. -/
set_option linter.unusedVariables false
set_option linter.unusedSimpArgs false
namespace Go.Proofs.Ytnmephdamgofnaa.Mid
open Go.RowKit Go.Proofs.Ytnmephdamgofnaa.Hand Go.Proofs.YtnmephdamgofnaaW.PrintWords

def cle (v : Int) (l : List Int) : Nat:=l.countP fun x=>decide (x ≤ v)
def srt (l : List Int) (i : Nat) : Int:=(sortL l).getD i 0
theorem sortL_perm (l : List Int) : (sortL l).Perm l:=List.mergeSort_perm _ _
theorem sortL_sorted (l : List Int) : (sortL l).Pairwise (fun x y=>x ≤ y):=by
  have:=List.pairwise_mergeSort (le:=fun x y : Int=>decide (x ≤ y)) (by intro a b c;simp;omega) (by intro a b;simp;omega) l
  refine this.imp ?_
  intro a b h
  simpa using h
theorem srt_get (l : List Int) (i : Nat) (h : i < (sortL l).length) : (sortL l)[i] = srt l i:=by
  unfold srt
  rw [List.getD_eq_getElem?_getD,List.getElem?_eq_getElem h,Option.getD_some]
theorem cle_sorted : ∀ (s : List Int),s.Pairwise (fun x y=>x ≤ y)→∀ (i : Nat) (h : i < s.length) (v : Int),s[i] ≤ v ↔ i < cle v s
  | [],_,i,h,_=>absurd h (Nat.not_lt_zero _)
  | x::t,hs,i,h,v=>by
    rw [List.pairwise_cons] at hs
    have ih:=cle_sorted t hs.2
    by_cases hx : x ≤ v
    · have e : cle v (x::t) = cle v t + 1:=by unfold cle;rw [List.countP_cons_of_pos (by simpa using hx)]
      rw [e]
      cases i with
      | zero=>simp [hx]
      | succ i=>rw [List.getElem_cons_succ,ih i (by simpa using h) v];omega
    · have e : cle v (x::t) = 0:=by
        unfold cle
        rw [List.countP_eq_zero]
        intro a ha
        rcases List.mem_cons.1 ha with rfl|ha
        · simpa using hx
        · have:=hs.1 a ha
          simp;omega
      rw [e]
      cases i with
      | zero=>simp;omega
      | succ i =>
        have:=hs.1 _ (List.getElem_mem (l:=t) (n:=i) (by simpa using h))
        simp;omega
theorem cle_sort (l : List Int) (v : Int) : cle v (sortL l) = cle v l:=(sortL_perm l).countP_eq _
/-- THE ONE LAW: the i-th is at most v just if more than i are. -/
theorem srt_le (l : List Int) (i : Nat) (h : i < l.length) (v : Int) : srt l i ≤ v ↔ i < cle v l:=by
  have h' : i < (sortL l).length:=by rw [sortL_len];exact h
  rw [← cle_sort l v,← srt_get l i h']
  exact cle_sorted _ (sortL_sorted l) i h' v
theorem srt_eq (l : List Int) (i : Nat) (v : Int) (h : i < l.length) (h1 : i < cle v l) (h2 : cle (v - 1) l ≤ i) : srt l i = v:=by
  have a:=(srt_le l i h v).2 h1
  have b:=srt_le l i h (v - 1)
  have : ¬ srt l i ≤ v - 1:=fun c=>by have:=b.1 c;omega
  omega
theorem srt_mono (l : List Int) (i j : Nat) (hij : i ≤ j) (h : j < l.length) : srt l i ≤ srt l j:=by
  have a:=(srt_le l j h (srt l j)).1 (Int.le_refl _)
  exact (srt_le l i (by omega) _).2 (by omega)
theorem srt_mem (l : List Int) (i : Nat) (h : i < l.length) : srt l i ∈ l:=by
  have h' : i < (sortL l).length:=by rw [sortL_len];exact h
  rw [← srt_get l i h']
  exact (sortL_perm l).mem_iff.1 (List.getElem_mem h')
theorem cle_le_len (l : List Int) (v : Int) : cle v l ≤ l.length:=List.countP_le_length
theorem cle_ge (l : List Int) (v : Int) : (l.countP fun x=>decide (v ≤ x)) + cle (v - 1) l = l.length:=by
  unfold cle
  induction l with
  | nil=>rfl
  | cons x t ih =>
    by_cases hx : v ≤ x
    · rw [List.countP_cons_of_pos (by simpa using hx),List.countP_cons_of_neg (by simp;omega)];simp;omega
    · rw [List.countP_cons_of_neg (by simpa using hx),List.countP_cons_of_pos (by simp;omega)];simp;omega
theorem srt_ext (a b : List Int) (hl : a.length = b.length) (h : ∀ v,cle v a = cle v b) (i : Nat) (hi : i < a.length) : srt a i = srt b i:=by
  have h1:=(srt_le a i hi (srt b i)).2 (by rw [h];exact (srt_le b i (by omega) _).1 (Int.le_refl _))
  have h2:=(srt_le b i (by omega) (srt a i)).2 (by rw [← h];exact (srt_le a i hi _).1 (Int.le_refl _))
  omega
theorem cle_perm {a b : List Int} (h : a.Perm b) (v : Int) : cle v a = cle v b:=h.countP_eq _
/-- Each is moved by at most d. -/
theorem srt_moved (ps : List (Int × Int)) (d : Int) (h : ∀ p ∈ ps,p.2 ≤ p.1 + d) (i : Nat) (hi : i < ps.length) : srt (ps.map Prod.snd) i ≤ srt (ps.map Prod.fst) i + d:=by
  rw [srt_le _ i (by simpa using hi)]
  have h1:=(srt_le (ps.map Prod.fst) i (by simpa using hi) _).1 (Int.le_refl _)
  refine Nat.lt_of_lt_of_le h1 ?_
  unfold cle
  rw [List.countP_map,List.countP_map]
  refine List.countP_mono_left ?_
  intro p hp hq
  have:=h p hp
  simp only [Function.comp,decide_eq_true_eq] at hq ⊢
  omega
theorem sortL_mem {l : List Int} {x : Int} : x ∈ sortL l ↔ x ∈ l:=(sortL_perm l).mem_iff

/-- Values that may be trimmed. -/
structure GoodM (l : List Int) (n : Nat) : Prop where
  room : 2 * n + 1 ≤ l.length
  big : l.length ≤ 1000000
  fine : ∀ x ∈ l,-4294967296 ≤ x∧x ≤ 4294967296
theorem GoodM.any {l : List Int} {n : Nat} (h : GoodM l n) : l.any wildB = false:=by
  rw [List.any_eq_false]
  intro x hx
  have:=h.fine x hx
  simp [wildB]
  omega
theorem Trim_good {l : List Int} {n : Nat} (h : GoodM l n) : midpoint_Trim.f l (n : Int) = some (trimL l (n : Int),0):=by
  have:=h.room
  unfold midpoint_Trim.f
  rw [if_neg (by omega),if_neg (by intro e;rw [e] at this;simp at this),if_neg (by omega),if_pos h.big,h.any]
  simp
theorem Trim_bad {l : List Int} {a : Int} (hb : l.length ≤ 1000000) (h : ∀ n : Nat,a = (n : Int)→¬ GoodM l n) : midpoint_Trim.f l a = some ([],140):=by
  unfold midpoint_Trim.f
  by_cases h1 : a < 0
  · rw [if_pos h1]
  rw [if_neg h1]
  by_cases h2 : l = []
  · rw [if_pos h2]
  rw [if_neg h2]
  by_cases h3 : ((l.length : Int) - 1) / 2 < a
  · rw [if_pos h3]
  rw [if_neg h3,if_pos hb]
  by_cases h4 : l.any wildB = true
  · rw [if_pos h4]
  exfalso
  have hpos : 1 ≤ l.length:=by cases l with|nil=>exact absurd rfl h2|cons _ _=>simp
  refine h a.toNat (by omega) ⟨by omega,hb,fun x hx=>?_⟩
  have:=List.any_eq_false.1 (by simpa using h4) x hx
  simp [wildB] at this
  omega
theorem trimL_eq (l : List Int) (n : Nat) : trimL l (n : Int) = (List.range (l.length - 2 * n)).map fun j=>srt l (n + j):=by
  unfold trimL
  rw [Int.toNat_natCast]
  apply List.ext_getElem
  · simp [sortL_len];omega
  · intro j h1 h2
    have h3 : j < l.length - 2 * n:=by simpa using h2
    simp only [List.getElem_take,List.getElem_drop,List.getElem_map,List.getElem_range]
    exact srt_get l (n + j) _
theorem trimL_len (l : List Int) (n : Nat) : (trimL l (n : Int)).length = l.length - 2 * n:=by rw [trimL_eq];simp
theorem trimL_rd (l : List Int) (n j : Nat) (h : j < l.length - 2 * n) : rd (trimL l (n : Int)) (j : Int) = srt l (n + j):=by
  unfold rd
  rw [trimL_eq,Int.toNat_natCast,List.getD_eq_getElem?_getD,List.getElem?_map,List.getElem?_range h]
  rfl
theorem srt_fine {l : List Int} {n : Nat} (h : GoodM l n) (i : Nat) (hi : i < l.length) : -4294967296 ≤ srt l i∧srt l i ≤ 4294967296:=h.fine _ (srt_mem l i hi)
end Go.Proofs.Ytnmephdamgofnaa.Mid
/- Plain facts: a plan that may be, and what resync's functions answer. -/
set_option linter.unusedVariables false
set_option linter.unusedSimpArgs false
namespace Go.Proofs.Ytnmephdamgofnaa.Mid
open Go.RowKit Go.Proofs.Ytnmephdamgofnaa.Hand Go.Proofs.Ytnmephdamgofnaa.PA Go.Proofs.Ytnmephdamgofnaa.PB Go.Proofs.YtnmephdamgofnaaW.PrintWords Go.Proofs.YtnmephdamgofnaaW.PrintMore

theorem wrap_id {x : Int} (h0 : -9223372036854775808 ≤ x) (h1 : x ≤ 9223372036854775807) : wrap64 x = x:=by
  unfold wrap64
  omega
theorem ends_loop (xs : List Int) (hl : xs.length ≤ 1000000) (m : Int) (hm : ∀ i : Nat,i < xs.length→m ≤ rd xs (i : Int)) (hmono : ∀ i j : Nat,i ≤ j→j < xs.length→rd xs (i : Int) ≤ rd xs (j : Int)) :
    ∀ (d k i : Nat) (x5 : Int),i + d = xs.length→d < k→(∀ j : Nat,i ≤ j→j < xs.length→x5 ≤ rd xs (j : Int))→midpoint_ends_int64.l0 k m x5 xs (xs.length : Int) (i : Int) = some (m,if i = xs.length then x5 else rd xs ((xs.length - 1 : Nat) : Int)):=by
  intro d
  induction d with
  | zero =>
    intro k i x5 hi hk hx
    obtain ⟨k,rfl⟩ : ∃ m,k = m + 1:=⟨k - 1,by omega⟩
    simp only [midpoint_ends_int64.l0]
    rw [if_neg (by omega),if_pos (by omega)]
  | succ d ih =>
    intro k i x5 hi hk hx
    obtain ⟨k,rfl⟩ : ∃ m,k = m + 1:=⟨k - 1,by omega⟩
    simp only [midpoint_ends_int64.l0]
    have e1 : mn m (rd xs (i : Int)) = m:=by unfold mn;rw [if_neg (by have:=hm i (by omega);omega)]
    have e2 : mx x5 (rd xs (i : Int)) = rd xs (i : Int):=by
      unfold mx
      have:=hx i (Nat.le_refl _) (by omega)
      split <;> omega
    rw [if_pos (by omega),if_pos (by omega),if_pos (by omega),e1,e2,wrap_id (by omega) (by omega),show (i : Int) + 1 = ((i + 1 : Nat) : Int) by omega,ih k (i + 1) _ (by omega) (by omega) (fun j h1 h2=>hmono i j (by omega) h2)]
    by_cases he : i + 1 = xs.length
    · rw [if_pos he,if_neg (by omega),show xs.length - 1 = i by omega]
    · rw [if_neg he,if_neg (by omega)]
theorem rd_drop1 (xs : List Int) (j : Nat) : rd (xs.drop 1) (j : Int) = rd xs ((j + 1 : Nat) : Int):=by
  unfold rd
  rw [Int.toNat_natCast,Int.toNat_natCast,List.getD_eq_getElem?_getD,List.getD_eq_getElem?_getD,List.getElem?_drop,Nat.add_comm]
theorem ends_trim {l : List Int} {n : Nat} (h : GoodM l n) (k : Nat) (hk : l.length < k) : midpoint_ends_int64.f k (rd (trimL l (n : Int)) 0) ((trimL l (n : Int)).drop 1) = some (srt l n,srt l (l.length - 1 - n)):=by
  have hr:=h.room
  have hb:=h.big
  have hlen:=trimL_len l n
  have hd : ((trimL l (n : Int)).drop 1).length = l.length - 2 * n - 1:=by rw [List.length_drop,hlen]
  have h0 : rd (trimL l (n : Int)) 0 = srt l n:=by have:=trimL_rd l n 0 (by omega);simpa using this
  have hj : ∀ j : Nat,j < l.length - 2 * n - 1→rd ((trimL l (n : Int)).drop 1) (j : Int) = srt l (n + j + 1):=fun j h1=>by
    rw [rd_drop1,trimL_rd l n (j + 1) (by omega),Nat.add_assoc]
  unfold midpoint_ends_int64.f
  have:=ends_loop ((trimL l (n : Int)).drop 1) (by omega) (srt l n) (fun i hi=>by rw [hj i (by omega)];exact srt_mono l n _ (by omega) (by omega))
    (fun i j h1 h2=>by rw [hj i (by omega),hj j (by omega)];exact srt_mono l _ _ (by omega) (by omega)) ((trimL l (n : Int)).drop 1).length k 0 (srt l n) (by omega) (by omega) (fun j h1 h2=>by rw [hj j (by omega)];exact srt_mono l n _ (by omega) (by omega))
  rw [h0]
  rw [show ((0 : Nat) : Int) = 0 from rfl] at this
  rw [this]
  congr 2
  by_cases he : 0 = ((trimL l (n : Int)).drop 1).length
  · rw [if_pos he,show l.length - 1 - n = n by omega]
  · rw [if_neg he,hj _ (by omega),hd,show n + (l.length - 2 * n - 1 - 1) + 1 = l.length - 1 - n by omega]
theorem Of_good {l : List Int} {n : Nat} (h : GoodM l n) (k : Nat) (hk : l.length < k) : midpoint_Of.f k l (n : Int) = some ((srt l n + srt l (l.length - 1 - n)) / 2,0):=by
  have hr:=h.room
  have f1:=srt_fine h n (by omega)
  have f2:=srt_fine h (l.length - 1 - n) (by omega)
  unfold midpoint_Of.f
  rw [Trim_good h,Option.bind_some]
  simp only [if_true]
  rw [if_pos (by rw [trimL_len];omega),if_pos (by rw [trimL_len];omega),ends_trim h k hk,Option.bind_some,wrap_id (by omega) (by omega)]
theorem Of_bad {l : List Int} {a : Int} (hb : l.length ≤ 1000000) (h : ∀ n : Nat,a = (n : Int)→¬ GoodM l n) (k : Nat) : midpoint_Of.f k l a = some (0,140):=by
  unfold midpoint_Of.f
  rw [Trim_bad hb h,Option.bind_some]
  rfl

theorem wfi64 {a : Int} (h : (Lit.int .i64 a).wf = true) : -9223372036854775808 ≤ a∧a ≤ 9223372036854775807:=by
  have : (decide (IntKind.i64.min ≤ a) && decide (a ≤ IntKind.i64.max)) = true:=h
  rw [show IntKind.i64.min = -9223372036854775808 by decide,show IntKind.i64.max = 9223372036854775807 by decide] at this
  simpa using this
theorem in_eq (a b c : Int) : plan_in.f a b c = some (decide (b ≤ a∧a ≤ c)):=by
  unfold plan_in.f
  by_cases h : b ≤ a
  · rw [if_pos h];congr 1;simp [h]
  · rw [if_neg h];congr 1;simp [h]
/-- A plan that may be: all conditions hold. -/
def planOk (p : Pl) : Prop:=∀ i,1 ≤ i→i ≤ 11→condO p i = some true
theorem g_some (p : Pl) (h : p.a8 ≠ 0) : ∃ v,plan_look_g.f p.a0 p.a1 p.a2 p.a3 p.a4 p.a5 p.a6 p.a7 p.a8 p.a9 p.a10 p.a11 p.a12 p.a13 p.a14 p.a15 = some v:=by
  unfold plan_look_g.f plan_look_round.f
  rw [Option.bind_some,if_neg h]
  exact ⟨_,rfl⟩
theorem a_some (p : Pl) (h : p.a8 ≠ 0) : ∃ v,plan_look_a.f p.a0 p.a1 p.a2 p.a3 p.a4 p.a5 p.a6 p.a7 p.a8 p.a9 p.a10 p.a11 p.a12 p.a13 p.a14 p.a15 = some v:=by
  obtain ⟨v,hv⟩:=g_some p h
  unfold plan_look_a.f plan_look_e.f
  rw [Option.bind_some,hv,Option.bind_some]
  exact ⟨_,rfl⟩
theorem cond_some (p : Pl) (i : Nat) (h1 : 1 ≤ i) (h2 : i ≤ 11) (h8 : 4 ≤ i→p.a8 ≠ 0) (h13 : 10 ≤ i→p.a13 ≠ 0) : ∃ b,condO p i = some b:=by
  match i,h1,h2 with
  | 1,_,_=>show ∃ b,plan_look_nodes.f p.a0 p.a1 p.a2 p.a3 p.a4 p.a5 p.a6 p.a7 p.a8 p.a9 p.a10 p.a11 p.a12 p.a13 p.a14 p.a15 = some b;unfold plan_look_nodes.f;rw [in_eq,Option.bind_some];split;(· rw [in_eq];exact ⟨_,rfl⟩);exact ⟨_,rfl⟩
  | 2,_,_=>show ∃ b,plan_look_air.f p.a0 p.a1 p.a2 p.a3 p.a4 p.a5 p.a6 p.a7 p.a8 p.a9 p.a10 p.a11 p.a12 p.a13 p.a14 p.a15 = some b;unfold plan_look_air.f;rw [in_eq,Option.bind_some];split;(· split;(· rw [in_eq];exact ⟨_,rfl⟩);exact ⟨_,rfl⟩);exact ⟨_,rfl⟩
  | 3,_,_=>show ∃ b,plan_look_slot.f p.a0 p.a1 p.a2 p.a3 p.a4 p.a5 p.a6 p.a7 p.a8 p.a9 p.a10 p.a11 p.a12 p.a13 p.a14 p.a15 = some b;unfold plan_look_slot.f;rw [in_eq,Option.bind_some];split;(· rw [in_eq];exact ⟨_,rfl⟩);exact ⟨_,rfl⟩
  | 4,_,_ =>
    show ∃ b,plan_look_pi.f p.a0 p.a1 p.a2 p.a3 p.a4 p.a5 p.a6 p.a7 p.a8 p.a9 p.a10 p.a11 p.a12 p.a13 p.a14 p.a15 = some b
    obtain ⟨v,hv⟩:=g_some p (h8 (by omega));obtain ⟨u,hu⟩:=a_some p (h8 (by omega))
    unfold plan_look_pi.f plan_look_leastPi.f plan_look_e.f
    rw [hu,Option.bind_some,hv,Option.bind_some,Option.bind_some,Option.bind_some,in_eq]
    exact ⟨_,rfl⟩
  | 5,_,_=>show ∃ b,plan_look_window.f p.a0 p.a1 p.a2 p.a3 p.a4 p.a5 p.a6 p.a7 p.a8 p.a9 p.a10 p.a11 p.a12 p.a13 p.a14 p.a15 = some b;unfold plan_look_window.f plan_look_leastWindow.f plan_look_e.f;rw [Option.bind_some,Option.bind_some,in_eq];exact ⟨_,rfl⟩
  | 6,_,_ =>
    show ∃ b,plan_look_limit.f p.a0 p.a1 p.a2 p.a3 p.a4 p.a5 p.a6 p.a7 p.a8 p.a9 p.a10 p.a11 p.a12 p.a13 p.a14 p.a15 = some b
    obtain ⟨v,hv⟩:=g_some p (h8 (by omega));obtain ⟨u,hu⟩:=a_some p (h8 (by omega))
    unfold plan_look_limit.f plan_look_leastCap.f plan_look_e.f
    rw [hu,Option.bind_some,hv,Option.bind_some,Option.bind_some,Option.bind_some,in_eq]
    exact ⟨_,rfl⟩
  | 7,_,_=>show ∃ b,plan_look_sends.f p.a0 p.a1 p.a2 p.a3 p.a4 p.a5 p.a6 p.a7 p.a8 p.a9 p.a10 p.a11 p.a12 p.a13 p.a14 p.a15 = some b;unfold plan_look_sends.f plan_look_leastOff.f;rw [Option.bind_some,in_eq];exact ⟨_,rfl⟩
  | 8,_,_=>show ∃ b,plan_look_fits.f p.a0 p.a1 p.a2 p.a3 p.a4 p.a5 p.a6 p.a7 p.a8 p.a9 p.a10 p.a11 p.a12 p.a13 p.a14 p.a15 = some b;unfold plan_look_fits.f plan_look_leastSlot.f;exact ⟨_,rfl⟩
  | 9,_,_=>show ∃ b,plan_look_queue.f p.a0 p.a1 p.a2 p.a3 p.a4 p.a5 p.a6 p.a7 p.a8 p.a9 p.a10 p.a11 p.a12 p.a13 p.a14 p.a15 = some b;unfold plan_look_queue.f;rw [in_eq,Option.bind_some];split;(· rw [in_eq,Option.bind_some];split;(· rw [in_eq];exact ⟨_,rfl⟩);exact ⟨_,rfl⟩);exact ⟨_,rfl⟩
  | 10,_,_ =>
    show ∃ b,plan_look_delta.f p.a0 p.a1 p.a2 p.a3 p.a4 p.a5 p.a6 p.a7 p.a8 p.a9 p.a10 p.a11 p.a12 p.a13 p.a14 p.a15 = some b
    unfold plan_look_delta.f plan_look_leastDelta.f plan_look_round.f
    rw [if_neg (h13 (by omega)),Option.bind_some,Option.bind_some,Option.bind_some,in_eq]
    exact ⟨_,rfl⟩
  | 11,_,_=>show ∃ b,plan_look_horizon.f p.a0 p.a1 p.a2 p.a3 p.a4 p.a5 p.a6 p.a7 p.a8 p.a9 p.a10 p.a11 p.a12 p.a13 p.a14 p.a15 = some b;unfold plan_look_horizon.f plan_look_round.f;rw [Option.bind_some,in_eq];exact ⟨_,rfl⟩
theorem slot_rho (p : Pl) (h : condO p 3 = some true) : (1 ≤ p.a2∧p.a2 ≤ 1048576)∧4 ≤ p.a8∧p.a8 ≤ 1048576:=by
  have h : plan_look_slot.f p.a0 p.a1 p.a2 p.a3 p.a4 p.a5 p.a6 p.a7 p.a8 p.a9 p.a10 p.a11 p.a12 p.a13 p.a14 p.a15 = some true:=h
  unfold plan_look_slot.f at h
  rw [in_eq,Option.bind_some] at h
  split at h
  · rename_i h1
    rw [in_eq,Option.bind_some] at h
    have h2:=Option.some.inj h
    simp at h1 h2
    omega
  · cases h
theorem queue_13 (p : Pl) (h : condO p 9 = some true) : 1 ≤ p.a13:=by
  have h : plan_look_queue.f p.a0 p.a1 p.a2 p.a3 p.a4 p.a5 p.a6 p.a7 p.a8 p.a9 p.a10 p.a11 p.a12 p.a13 p.a14 p.a15 = some true:=h
  unfold plan_look_queue.f at h
  rw [in_eq,Option.bind_some] at h
  split at h
  · rw [in_eq,Option.bind_some] at h
    split at h
    · rename_i h1;simp at h1;omega
    · cases h
  · cases h
theorem nodes_k (p : Pl) (h : condO p 1 = some true) : (4 ≤ p.a0∧p.a0 ≤ 16)∧0 ≤ p.a1∧p.a1 ≤ 7∧2 * p.a1 + 2 ≤ p.a0:=by
  have h : plan_look_nodes.f p.a0 p.a1 p.a2 p.a3 p.a4 p.a5 p.a6 p.a7 p.a8 p.a9 p.a10 p.a11 p.a12 p.a13 p.a14 p.a15 = some true:=h
  unfold plan_look_nodes.f at h
  rw [in_eq,Option.bind_some] at h
  split at h
  · rename_i h1
    simp at h1
    rw [in_eq,Option.bind_some] at h
    have h2:=Option.some.inj h
    simp only [decide_eq_true_eq] at h2
    rw [wrap_id (x:=p.a0 - 2) (by omega) (by omega),Int.tdiv_eq_ediv_of_nonneg (by omega),wrap_id (by omega) (by omega)] at h2
    omega
  · cases h
theorem air_d (p : Pl) (h : condO p 2 = some true) : (1 ≤ p.a5∧p.a5 ≤ 1048576)∧0 ≤ p.a6∧p.a6 ≤ p.a7∧p.a7 ≤ 1048576:=by
  have h : plan_look_air.f p.a0 p.a1 p.a2 p.a3 p.a4 p.a5 p.a6 p.a7 p.a8 p.a9 p.a10 p.a11 p.a12 p.a13 p.a14 p.a15 = some true:=h
  unfold plan_look_air.f at h
  rw [in_eq,Option.bind_some] at h
  split at h
  · rename_i h1
    simp at h1
    split at h
    · rename_i h3
      rw [in_eq,Option.bind_some] at h
      have h2:=Option.some.inj h
      simp only [decide_eq_true_eq] at h2
      omega
    · cases h
  · cases h
/-- What the greatest correction is at least. -/
theorem cap_pos (p : Pl) (h1 : condO p 1 = some true) (h2 : condO p 2 = some true) (h3 : condO p 3 = some true) (h6 : condO p 6 = some true) : 0 ≤ p.a10∧p.a10 ≤ 1048576:=by
  have n:=nodes_k p h1
  have a:=air_d p h2
  have s:=slot_rho p h3
  have h : plan_look_limit.f p.a0 p.a1 p.a2 p.a3 p.a4 p.a5 p.a6 p.a7 p.a8 p.a9 p.a10 p.a11 p.a12 p.a13 p.a14 p.a15 = some true:=h6
  have r0 : 0 ≤ p.a0 * p.a2:=Int.mul_nonneg (by omega) (by omega)
  have r1 : p.a0 * p.a2 ≤ 16 * 1048576:=Int.mul_le_mul n.1.2 s.1.2 (by omega) (by omega)
  have q0 : 0 ≤ Int.tdiv (2 * (p.a0 * p.a2)) p.a8:=Int.tdiv_nonneg (by omega) (by omega)
  have q1 : Int.tdiv (2 * (p.a0 * p.a2)) p.a8 ≤ 2 * (p.a0 * p.a2):=by
    rw [Int.tdiv_eq_ediv_of_nonneg (by omega)]
    exact Int.ediv_le_self _ (by omega)
  unfold plan_look_limit.f plan_look_leastCap.f plan_look_a.f plan_look_e.f plan_look_g.f plan_look_round.f at h
  simp only [Option.bind_some] at h
  rw [if_neg (by omega)] at h
  simp only [Option.bind_some] at h
  rw [in_eq,Option.bind_some] at h
  rw [wrap_id (x:=p.a0 * p.a2) (by omega) (by omega),wrap_id (x:=2 * (p.a0 * p.a2)) (by omega) (by omega)] at h
  generalize Int.tdiv (2 * (p.a0 * p.a2)) p.a8 = q at q0 q1 h
  rw [wrap_id (x:=q) (by omega) (by omega),wrap_id (x:=q + 4) (by omega) (by omega),wrap_id (x:=2 * (q + 4)) (by omega) (by omega),wrap_id (x:=p.a7 - p.a6) (by omega) (by omega),wrap_id (x:=p.a7 - p.a6 + 6) (by omega) (by omega),
    wrap_id (x:=p.a7 - p.a6 + 6 + 2 * (q + 4)) (by omega) (by omega),wrap_id (x:=2 * (p.a7 - p.a6 + 6 + 2 * (q + 4))) (by omega) (by omega),wrap_id (x:=2 * (2 * (q + 4))) (by omega) (by omega),wrap_id (x:=2 * (p.a7 - p.a6 + 6)) (by omega) (by omega),
    wrap_id (x:=2 * (p.a7 - p.a6 + 6 + 2 * (q + 4)) + 2 * (2 * (q + 4))) (by omega) (by omega),wrap_id (by omega) (by omega)] at h
  have h2:=Option.some.inj h
  simp only [decide_eq_true_eq] at h2
  omega
theorem failsC_total (c : Nat→Option Bool) : ∀ (k j : Nat),1 ≤ j→(∀ i,j ≤ i→i < j + k→(∀ m,j ≤ m→m < i→c m = some true)→∃ b,c i = some b) →
    ∃ r : Int,failsC c k j = some r∧((r = 0∧∀ i,j ≤ i→i < j + k→c i = some true) ∨ (1 ≤ r∧¬ ∀ i,j ≤ i→i < j + k→c i = some true))
  | 0,j,_,_=>⟨0,rfl,.inl ⟨rfl,fun i h1 h2=>by omega⟩⟩
  | k + 1,j,hj,h=>by
    obtain ⟨b,hb⟩:=h j (Nat.le_refl _) (by omega) (fun m h1 h2=>by omega)
    cases b with
    | false =>
      refine ⟨(j : Int),by unfold failsC;rw [hb];rfl,.inr ⟨by omega,fun q=>?_⟩⟩
      have:=q j (Nat.le_refl _) (by omega)
      rw [hb] at this
      cases this
    | true =>
      obtain ⟨r,hr,hx⟩:=failsC_total c k (j + 1) (by omega) (fun i h1 h2 h3=>h i (by omega) (by omega) (fun m q1 q2=>by
        by_cases e : m = j
        · rw [e];exact hb
        · exact h3 m (by omega) q2))
      refine ⟨r,by unfold failsC;rw [hb];exact hr,?_⟩
      rcases hx with ⟨h0,hx⟩|⟨h0,hx⟩
      · refine .inl ⟨h0,fun i h1 h2=>?_⟩
        by_cases e : i = j
        · rw [e];exact hb
        · exact hx i (by omega) (by omega)
      · exact .inr ⟨h0,fun q=>hx fun i h1 h2=>q i (by omega) (by omega)⟩
theorem fails_total (p : Pl) : ∃ r : Int,plan_Fails.f p.a0 p.a1 p.a2 p.a3 p.a4 p.a5 p.a6 p.a7 p.a8 p.a9 p.a10 p.a11 p.a12 p.a13 p.a14 p.a15 = some r∧((r = 0∧planOk p) ∨ (1 ≤ r∧¬ planOk p)):=by
  obtain ⟨r,hr,hx⟩:=failsC_total (condO p) 11 1 (Nat.le_refl _) (fun i h1 h2 h3=>cond_some p i h1 (by omega) (fun h4=>by have:=slot_rho p (h3 3 (by omega) (by omega));omega) (fun h10=>by have:=queue_13 p (h3 9 (by omega) (by omega));omega))
  refine ⟨r,hr,?_⟩
  rcases hx with ⟨h0,hx⟩|⟨h0,hx⟩
  · exact .inl ⟨h0,fun i h1 h2=>hx i h1 (by omega)⟩
  · exact .inr ⟨h0,fun q=>hx fun i h1 h2=>q i h1 (by omega)⟩
theorem check_ok (p : Pl) (h : planOk p) : plan_Check.f p.a0 p.a1 p.a2 p.a3 p.a4 p.a5 p.a6 p.a7 p.a8 p.a9 p.a10 p.a11 p.a12 p.a13 p.a14 p.a15 = some 0:=by
  obtain ⟨r,hr,hx⟩:=fails_total p
  rcases hx with ⟨h0,_⟩|⟨_,hn⟩
  · unfold plan_Check.f;rw [hr,h0];rfl
  · exact absurd h hn
theorem check_no (p : Pl) (h : ¬ planOk p) : plan_Check.f p.a0 p.a1 p.a2 p.a3 p.a4 p.a5 p.a6 p.a7 p.a8 p.a9 p.a10 p.a11 p.a12 p.a13 p.a14 p.a15 = some 70:=by
  obtain ⟨r,hr,hx⟩:=fails_total p
  rcases hx with ⟨_,hy⟩|⟨h0,_⟩
  · exact absurd hy h
  · unfold plan_Check.f;rw [hr,Option.bind_some,if_neg (by omega)]
theorem ok_k (p : Pl) (h : planOk p) : (4 ≤ p.a0∧p.a0 ≤ 16)∧0 ≤ p.a1∧p.a1 ≤ 7∧2 * p.a1 + 2 ≤ p.a0:=nodes_k p (h 1 (by omega) (by omega))
theorem ok_cap (p : Pl) (h : planOk p) : 0 ≤ p.a10∧p.a10 ≤ 1048576:=cap_pos p (h 1 (by omega) (by omega)) (h 2 (by omega) (by omega)) (h 3 (by omega) (by omega)) (h 6 (by omega) (by omega))
/-- Values that may be. -/
def fineB (l : List Int) : Bool:=l.all fun x=>decide (-4294967296 ≤ x∧x ≤ 4294967296)
theorem fine_iff (l : List Int) : fineB l = true ↔ ∀ x ∈ l,-4294967296 ≤ x∧x ≤ 4294967296:=by
  unfold fineB
  rw [List.all_eq_true]
  simp
theorem values_l0 (l : List Int) (hl : l.length ≤ 1000000) : ∀ (d i k : Nat),l.length - i = d→i ≤ l.length→d < k→resync_values.l0 k l (l.length : Int) (i : Int) = some (fineB (l.drop i)):=by
  intro d
  induction d with
  | zero =>
    intro i k hd hi hk
    obtain ⟨k,rfl⟩ : ∃ j,k = j + 1:=⟨k - 1,by omega⟩
    simp only [resync_values.l0]
    rw [if_neg (by omega),List.drop_of_length_le (by omega)]
    rfl
  | succ d ih =>
    intro i k hd hi hk
    obtain ⟨k,rfl⟩ : ∃ j,k = j + 1:=⟨k - 1,by omega⟩
    have hlt : i < l.length:=by omega
    have hrd : rd l (i : Int) = l[i]:=by simp [rd,hlt]
    have hstep:=ih (i + 1) k (by omega) (by omega) (by omega)
    rw [show ((i + 1 : Nat) : Int) = (i : Int) + 1 by omega] at hstep
    simp only [resync_values.l0]
    rw [if_pos (by omega),if_pos (by omega),if_pos (by omega),hrd,wrap_id (x:=(i : Int) + 1) (by omega) (by omega),hstep,List.drop_eq_getElem_cons hlt]
    have e : fineB (l[i]::l.drop (i + 1)) = (decide (-4294967296 ≤ l[i]∧l[i] ≤ 4294967296) && fineB (l.drop (i + 1))):=rfl
    rw [e]
    by_cases c1 : l[i] < -4294967296
    · rw [if_pos c1,decide_eq_false (by omega)];rfl
    · rw [if_neg c1]
      by_cases c2 : l[i] > 4294967296
      · rw [if_pos c2,decide_eq_false (by omega)];rfl
      · rw [if_neg c2,decide_eq_true (by omega)];rfl
theorem values_eq (l : List Int) (hl : l.length ≤ 1000000) (k : Nat) (hk : l.length < k) : resync_values.f k l = some (fineB l):=by
  unfold resync_values.f
  have:=values_l0 l hl l.length 0 k (by omega) (by omega) hk
  simpa using this
/-- The midpoint, for a plan. -/
def midP (p : Pl) (l : List Int) : Int:=(srt l p.a1.toNat + srt l (l.length - 1 - p.a1.toNat)) / 2
/-- What the correction is. -/
def corrP (p : Pl) (l : List Int) : Int × Int:=if 2 * p.a1 + 1 ≤ (l.length : Int) then (if midP p l > p.a10 ∨ -midP p l > p.a10 then (0,151) else (-midP p l,0)) else (0,0)
theorem good_of (p : Pl) (hp : planOk p) (l : List Int) (hl : l.length ≤ 1000000) (hf : fineB l = true) (h : 2 * p.a1 + 1 ≤ (l.length : Int)) : GoodM l p.a1.toNat:=by
  have:=ok_k p hp
  exact ⟨by omega,hl,(fine_iff l).1 hf⟩
theorem midP_in (p : Pl) (hp : planOk p) (l : List Int) (hl : l.length ≤ 1000000) (hf : fineB l = true) (h : 2 * p.a1 + 1 ≤ (l.length : Int)) : -4294967296 ≤ midP p l∧midP p l ≤ 4294967296:=by
  have hk:=ok_k p hp
  have g:=good_of p hp l hl hf h
  have f1:=srt_fine g p.a1.toNat (by omega)
  have f2:=srt_fine g (l.length - 1 - p.a1.toNat) (by omega)
  unfold midP
  omega
theorem enough_eq (p : Pl) (hp : planOk p) (n : Int) (hn : 0 ≤ n) : resync_Enough.f p.a0 p.a1 p.a2 p.a3 p.a4 p.a5 p.a6 p.a7 p.a8 p.a9 p.a10 p.a11 p.a12 p.a13 p.a14 p.a15 n = some (decide (2 * p.a1 + 1 ≤ n)):=by
  have hk:=ok_k p hp
  unfold resync_Enough.f
  rw [check_ok p hp,Option.bind_some,if_pos rfl,wrap_id (x:=2 * p.a1) (by omega) (by omega),wrap_id (x:=2 * p.a1 + 1) (by omega) (by omega)]
theorem corr_ok (p : Pl) (hp : planOk p) (l : List Int) (hl : l.length ≤ 1000000) (hf : fineB l = true) (k : Nat) (hk : l.length + 10 < k) : resync_Correction.f k p.a0 p.a1 p.a2 p.a3 p.a4 p.a5 p.a6 p.a7 p.a8 p.a9 p.a10 p.a11 p.a12 p.a13 p.a14 p.a15 l = some (corrP p l):=by
  have hkk:=ok_k p hp
  obtain ⟨k,rfl⟩ : ∃ j,k = j + 1:=⟨k - 1,by omega⟩
  unfold resync_Correction.f
  rw [check_ok p hp,Option.bind_some,if_pos rfl,values_eq l hl _ (by omega),hf,Option.bind_some]
  simp only [resync_Correction.j0,Bool.not_true,Bool.false_eq_true,if_false]
  rw [enough_eq p hp _ (by omega),Option.bind_some]
  unfold corrP
  by_cases h : 2 * p.a1 + 1 ≤ (l.length : Int)
  · have g:=good_of p hp l hl hf h
    have hm:=midP_in p hp l hl hf h
    have hO:=Of_good g k (by omega)
    rw [show ((p.a1.toNat : Nat) : Int) = p.a1 by omega] at hO
    rw [decide_eq_true h,if_pos rfl,hO,Option.bind_some,if_pos h]
    simp only [if_true]
    rw [show (srt l p.a1.toNat + srt l (l.length - 1 - p.a1.toNat)) / 2 = midP p l from rfl]
    rw [wrap_id (x:=-midP p l) (by omega) (by omega)]
    by_cases c : midP p l > p.a10 ∨ -midP p l > p.a10
    · rw [if_pos c,if_pos (by unfold mx;split <;> omega)]
    · rw [if_neg c,if_neg (by unfold mx;split <;> omega)]
  · rw [decide_eq_false h,if_neg (by decide),if_neg h]
theorem corr_bad (p : Pl) (l : List Int) (hl : l.length ≤ 1000000) (h : ¬ (planOk p∧fineB l = true)) (k : Nat) (hk : l.length + 10 < k) : resync_Correction.f k p.a0 p.a1 p.a2 p.a3 p.a4 p.a5 p.a6 p.a7 p.a8 p.a9 p.a10 p.a11 p.a12 p.a13 p.a14 p.a15 l = some (0,150):=by
  obtain ⟨k,rfl⟩ : ∃ j,k = j + 1:=⟨k - 1,by omega⟩
  unfold resync_Correction.f
  by_cases hp : planOk p
  · have hf : fineB l = false:=by
      cases hq : fineB l with
      | true=>exact absurd ⟨hp,hq⟩ h
      | false=>rfl
    rw [check_ok p hp,Option.bind_some,if_pos rfl,values_eq l hl _ (by omega),hf,Option.bind_some]
    simp only [resync_Correction.j0,Bool.not_false,if_true]
  · rw [check_no p hp,Option.bind_some,if_neg (by decide)]
    simp only [resync_Correction.j0,if_true]
/-- May what was done be? -/
def mayB (a b c : Int) (d : Bool) : Bool:=decide (0 ≤ a∧a ≤ 2147483647∧0 ≤ b∧b ≤ a∧-4294967296 ≤ c∧c ≤ 4294967296)
theorem may_eq (a b c : Int) (d : Bool) : resync_may.f a b c d = some (mayB a b c d):=by
  unfold resync_may.f mayB
  by_cases h : (a == 0 && (b == 0 && (c == 0 && (!d)))) = true
  · rw [if_pos h]
    simp at h
    obtain ⟨rfl,rfl,rfl,_⟩:=h
    rfl
  rw [if_neg h]
  by_cases c1 : a ≥ 0
  · rw [if_pos c1]
    by_cases c2 : a ≤ 2147483647
    · rw [if_pos c2]
      by_cases c3 : b ≥ 0
      · rw [if_pos c3]
        by_cases c4 : b ≤ a
        · rw [if_pos c4]
          by_cases c5 : c ≥ -4294967296
          · rw [if_pos c5];congr 1;rw [decide_eq_decide];omega
          · rw [if_neg c5];congr 1;exact (decide_eq_false (by omega)).symm
        · rw [if_neg c4];congr 1;exact (decide_eq_false (by omega)).symm
      · rw [if_neg c3];congr 1;exact (decide_eq_false (by omega)).symm
    · rw [if_neg c2];congr 1;exact (decide_eq_false (by omega)).symm
  · rw [if_neg c1];congr 1;exact (decide_eq_false (by omega)).symm
/-- What is done behind a round, out of the correction. -/
def turnC (c : Int × Int) (a b t : Int) (d : Bool) : Int × Int × Int × Bool × Int × Int :=
  if c.2 = 150 ∨ mayB a b t d = false then (0,0,0,false,0,150)
  else if c.2 = 151 ∨ d = true then (a,b,t,true,0,151)
  else if mayB (wrap64 (a + 1)) (if c.1 = 0 then b else wrap64 (b + 1)) (wrap64 (t + c.1)) d = true then (wrap64 (a + 1),(if c.1 = 0 then b else wrap64 (b + 1)),wrap64 (t + c.1),d,c.1,0)
  else (0,0,0,false,0,150)
theorem turn_eq (p : Pl) (a b t : Int) (d : Bool) (l : List Int) (c : Int × Int) (k : Nat) (hc : resync_Correction.f (k + 2) p.a0 p.a1 p.a2 p.a3 p.a4 p.a5 p.a6 p.a7 p.a8 p.a9 p.a10 p.a11 p.a12 p.a13 p.a14 p.a15 l = some c) : resync_Turn.f (k + 2) p.a0 p.a1 p.a2 p.a3 p.a4 p.a5 p.a6 p.a7 p.a8 p.a9 p.a10 p.a11 p.a12 p.a13 p.a14 p.a15 a b t d l = some (turnC c a b t d):=by
  unfold resync_Turn.f turnC
  rw [hc,Option.bind_some]
  by_cases h : c.2 = 150
  · rw [if_pos h,if_pos (.inl h)]
    simp only [resync_Turn.j0,if_true]
  rw [if_neg h,may_eq,Option.bind_some]
  cases hm : mayB a b t d with
  | false=>rw [if_pos (.inr rfl)];simp only [resync_Turn.j0,Bool.not_false,if_true]
  | true =>
    rw [if_neg (by simp [h])]
    simp only [resync_Turn.j0,Bool.not_true,Bool.false_eq_true,if_false]
    by_cases h1 : c.2 = 151
    · rw [if_pos h1,if_pos (.inl h1)]
      simp only [resync_Turn.j1,if_true]
    rw [if_neg h1]
    cases d with
    | true=>rw [if_pos (.inr rfl)];simp only [resync_Turn.j1,if_true]
    | false =>
      rw [if_neg (by simp [h1])]
      simp only [resync_Turn.j1,Bool.false_eq_true,if_false]
      by_cases h0 : c.1 = 0
      · simp only [h0,if_true]
        rw [may_eq,Option.bind_some]
        split <;> rfl
      · simp only [if_neg h0]
        rw [may_eq,Option.bind_some]
        split <;> rfl
end Go.Proofs.Ytnmephdamgofnaa.Mid
/- The document's conditions of a plan are the program's; the chapter's plan. -/
set_option linter.unusedVariables false
set_option linter.unusedSimpArgs false
namespace Go.Proofs.Ytnmephdamgofnaa.Mid
open Go.RowKit Go.Proofs.Ytnmephdamgofnaa.Hand Go.Proofs.Ytnmephdamgofnaa.PA Go.Proofs.Ytnmephdamgofnaa.PB Go.Proofs.YtnmephdamgofnaaW.PrintWords Go.Proofs.YtnmephdamgofnaaW.PrintMore

/-- The chapter's plan. -/
theorem fit_ok : planOk fitP2:=by
  obtain ⟨r,hr,hx⟩:=fails_total fitP2
  have : some r = some 0:=hr.symm.trans fit_end
  injection this with this
  rcases hx with ⟨_,hy⟩|⟨h1,_⟩
  · exact hy
  · omega
theorem some_eq : vesperslaw15_some.f = some (4,1,512,248,96,1,1,3,100000,88,64,10416,2,1,4,81920):=by
  unfold vesperslaw15_some.f plan_Fit.f
  rw [if_pos (by decide)]
  rfl
theorem mid_at (l : List Int) (lo hi : Int) (h0 : 3 ≤ l.length) (h1 : 1 < cle lo l) (h2 : cle (lo - 1) l ≤ 1) (h3 : l.length - 1 - 1 < cle hi l) (h4 : cle (hi - 1) l ≤ l.length - 1 - 1) : midP fitP2 l = (lo + hi) / 2:=by
  have e1 : fitP2.a1.toNat = 1:=rfl
  unfold midP
  rw [e1,srt_eq l 1 lo (by omega) h1 h2,srt_eq l (l.length - 1 - 1) hi (by omega) h3 h4]
theorem corr_at (l : List Int) (v : Int × Int) (hl : l.length ≤ 1000000) (hf : fineB l = true) (hv : corrP fitP2 l = v) (k : Nat) (hk : l.length + 10 < k) : resync_Correction.f k 4 1 512 248 96 1 1 3 100000 88 64 10416 2 1 4 81920 l = some v:=by
  rw [← hv]
  exact corr_ok fitP2 fit_ok l hl hf k hk
theorem corr_mid (l : List Int) (m : Int) (v : Int × Int) (h0 : 3 ≤ l.length) (hm : midP fitP2 l = m) (hv : (if m > 64 ∨ -m > 64 then ((0 : Int),(151 : Int)) else (-m,0)) = v) : corrP fitP2 l = v:=by
  unfold corrP
  rw [if_pos (by show 2 * (1 : Int) + 1 ≤ _;omega),hm]
  exact hv
theorem corr_few (l : List Int) (h0 : l.length < 3) : corrP fitP2 l = (0,0):=by
  unfold corrP
  rw [if_neg (by show ¬ 2 * (1 : Int) + 1 ≤ _;omega)]
theorem corrected_ok (l : List Int) (v : Int) (hl : l.length ≤ 1000000) (hf : fineB l = true) (hv : corrP fitP2 l = (v,0)) (k : Nat) (hk : l.length + 10 < k) : vesperslaw15_corrected.f k l = some v:=by
  unfold vesperslaw15_corrected.f
  rw [some_eq,Option.bind_some]
  simp only []
  rw [corr_at l _ hl hf hv k hk]
  rfl
theorem corrected_err (l : List Int) (hl : l.length ≤ 1000000) (hf : fineB l = true) (hv : corrP fitP2 l = (0,151)) (k : Nat) (hk : l.length + 10 < k) : vesperslaw15_corrected.f k l = some 151000:=by
  unfold vesperslaw15_corrected.f
  rw [some_eq,Option.bind_some]
  simp only []
  rw [corr_at l _ hl hf hv k hk,Option.bind_some,if_neg (by decide)]
  rw [show wrap64 (1000 * ((0 : Int),(151 : Int)).snd) = 151000 by decide +kernel]
theorem turn_at (a b t : Int) (d : Bool) (l : List Int) (c : Int × Int) (v : Int × Int × Int × Bool × Int × Int) (hl : l.length ≤ 1000000) (hf : fineB l = true) (hc : corrP fitP2 l = c) (hv : turnC c a b t d = v) (k : Nat) (hk : l.length + 10 < k) : resync_Turn.f k 4 1 512 248 96 1 1 3 100000 88 64 10416 2 1 4 81920 a b t d l = some v:=by
  obtain ⟨k,rfl⟩ : ∃ j,k = j + 2:=⟨k - 2,by omega⟩
  rw [← hv]
  exact turn_eq fitP2 a b t d l c k (corr_at l c hl hf hc (k + 2) hk)
theorem alive_eq (k : Nat) (hk : 100 ≤ k) : vesperslaw15_alive.f k = some true:=by
  unfold vesperslaw15_alive.f
  rw [some_eq,Option.bind_some]
  simp only []
  rw [turn_at 0 0 0 false [0,10,20,400] (-15,0) (1,1,-15,false,-15,0) (by decide) (by decide) (corr_mid _ 15 _ (by decide) (mid_at _ 10 20 (by decide) (by decide) (by decide) (by decide) (by decide)) (by decide)) (by decide +kernel) k (by simp;omega),Option.bind_some,
    corrected_ok [0,10,20,400] (-15) (by decide) (by decide) (corr_mid _ 15 _ (by decide) (mid_at _ 10 20 (by decide) (by decide) (by decide) (by decide) (by decide)) (by decide)) k (by simp;omega),Option.bind_some,if_pos rfl,
    corrected_ok [0,-3] 0 (by decide) (by decide) (corr_few _ (by decide)) k (by simp;omega),Option.bind_some,if_pos rfl,
    corrected_err [0,65,66,67] (by decide) (by decide) (corr_mid _ 65 _ (by decide) (mid_at _ 65 66 (by decide) (by decide) (by decide) (by decide) (by decide)) (by decide)) k (by simp;omega),Option.bind_some,if_pos rfl]
  rfl
end Go.Proofs.Ytnmephdamgofnaa.Mid
/- The plain law of ResyncNames. -/
set_option linter.unusedVariables false
set_option linter.unusedSimpArgs false
namespace Go.Proofs.Ytnmephdamgofnaa.Mid
open Go.RowKit Go.Proofs.Ytnmephdamgofnaa.Hand Go.Proofs.Ytnmephdamgofnaa.PA Go.Proofs.Ytnmephdamgofnaa.PB Go.Proofs.Ytnmephdamgofnaa.PM Go.Proofs.YtnmephdamgofnaaW.PrintWords Go.Proofs.YtnmephdamgofnaaW.PrintMore

theorem corrected_bad (k : Nat) (hk : 100 ≤ k) : vesperslaw15_corrected.f k [4294967297] = some 150000:=by
  unfold vesperslaw15_corrected.f
  rw [some_eq,Option.bind_some]
  simp only []
  have hb : ¬ (planOk fitP2∧fineB [4294967297] = true):=fun q=>absurd q.2 (by decide)
  rw [show resync_Correction.f k 4 1 512 248 96 1 1 3 100000 88 64 10416 2 1 4 81920 [4294967297] = some ((0 : Int),(150 : Int)) from corr_bad fitP2 [4294967297] (by decide) hb k (by simp;omega),Option.bind_some,if_neg (by decide)]
  rw [show wrap64 (1000 * ((0 : Int),(150 : Int)).snd) = 150000 by decide +kernel]
def zeroP : Pl:=⟨0,0,0,0,0,0,0,0,0,0,0,0,0,0,0,0⟩
theorem zero_no : ¬ planOk zeroP:=by
  intro h
  have h1:=check_ok zeroP h
  have h2 : plan_Check.f 0 0 0 0 0 0 0 0 0 0 0 0 0 0 0 0 = some 70:=by decide +kernel
  exact absurd (h1.symm.trans h2) (by decide)
theorem turn_zero (k : Nat) (hk : 100 ≤ k) : resync_Turn.f k 0 0 0 0 0 0 0 0 0 0 0 0 0 0 0 0 0 0 0 false [] = some (0,0,0,false,0,150):=by
  obtain ⟨k,rfl⟩ : ∃ j,k = j + 2:=⟨k - 2,by omega⟩
  exact turn_eq zeroP 0 0 0 false [] (0,150) k (corr_bad zeroP [] (by decide) (fun q=>zero_no q.1) (k + 2) (by simp;omega))
theorem turnP_fit (K : Nat) (s : TS) (l : List Int) : turnP K fitP2 s l = resync_Turn.f K 4 1 512 248 96 1 1 3 100000 88 64 10416 2 1 4 81920 s.1 s.2.1 s.2.2.1 s.2.2.2 l:=rfl
theorem fold_a (k : Nat) (hk : 100 ≤ k) : resync_Fold.f k 4 1 512 248 96 1 1 3 100000 88 64 10416 2 1 4 81920 [[0,2,4],[],[-4,-4,-4],[0,0,0]] = some (4,2,2,false,0):=by
  unfold resync_Fold.f
  rw [if_pos (by decide)]
  simp only [foldG]
  rw [show turnP k ⟨4,1,512,248,96,1,1,3,100000,88,64,10416,2,1,4,81920⟩ (0,0,0,false) [0,2,4] = some (1,1,-2,false,-2,0) from turn_at 0 0 0 false [0,2,4] (-2,0) (1,1,-2,false,-2,0) (by decide) (by decide) (corr_mid _ 2 _ (by decide) (mid_at _ 2 2 (by decide) (by decide) (by decide) (by decide) (by decide)) (by decide)) (by decide +kernel) k (by simp;omega),Option.bind_some,if_pos rfl]
  rw [show turnP k ⟨4,1,512,248,96,1,1,3,100000,88,64,10416,2,1,4,81920⟩ (1,1,-2,false) [] = some (2,1,-2,false,0,0) from turn_at 1 1 (-2) false [] (0,0) (2,1,-2,false,0,0) (by decide) (by decide) (corr_few _ (by decide)) (by decide +kernel) k (by simp;omega),Option.bind_some,if_pos rfl]
  rw [show turnP k ⟨4,1,512,248,96,1,1,3,100000,88,64,10416,2,1,4,81920⟩ (2,1,-2,false) [-4,-4,-4] = some (3,2,2,false,4,0) from turn_at 2 1 (-2) false [-4,-4,-4] (4,0) (3,2,2,false,4,0) (by decide) (by decide) (corr_mid _ (-4) _ (by decide) (mid_at _ (-4) (-4) (by decide) (by decide) (by decide) (by decide) (by decide)) (by decide)) (by decide +kernel) k (by simp;omega),Option.bind_some,if_pos rfl]
  rw [show turnP k ⟨4,1,512,248,96,1,1,3,100000,88,64,10416,2,1,4,81920⟩ (3,2,2,false) [0,0,0] = some (4,2,2,false,0,0) from turn_at 3 2 2 false [0,0,0] (0,0) (4,2,2,false,0,0) (by decide) (by decide) (corr_mid _ 0 _ (by decide) (mid_at _ 0 0 (by decide) (by decide) (by decide) (by decide) (by decide)) (by decide)) (by decide +kernel) k (by simp;omega),Option.bind_some,if_pos rfl]
  rfl
theorem fold_b (k : Nat) (hk : 100 ≤ k) : resync_Fold.f k 4 1 512 248 96 1 1 3 100000 88 64 10416 2 1 4 81920 [[0,2,4],[99,99,99],[0,0,0]] = some (1,1,-2,true,151):=by
  unfold resync_Fold.f
  rw [if_pos (by decide)]
  simp only [foldG]
  rw [show turnP k ⟨4,1,512,248,96,1,1,3,100000,88,64,10416,2,1,4,81920⟩ (0,0,0,false) [0,2,4] = some (1,1,-2,false,-2,0) from turn_at 0 0 0 false [0,2,4] (-2,0) (1,1,-2,false,-2,0) (by decide) (by decide) (corr_mid _ 2 _ (by decide) (mid_at _ 2 2 (by decide) (by decide) (by decide) (by decide) (by decide)) (by decide)) (by decide +kernel) k (by simp;omega),Option.bind_some,if_pos rfl]
  rw [show turnP k ⟨4,1,512,248,96,1,1,3,100000,88,64,10416,2,1,4,81920⟩ (1,1,-2,false) [99,99,99] = some (1,1,-2,true,0,151) from turn_at 1 1 (-2) false [99,99,99] (0,151) (1,1,-2,true,0,151) (by decide) (by decide) (corr_mid _ 99 _ (by decide) (mid_at _ 99 99 (by decide) (by decide) (by decide) (by decide) (by decide)) (by decide)) (by decide +kernel) k (by simp;omega),Option.bind_some,if_neg (by decide)]
  rfl
theorem fold_c (k : Nat) : resync_Fold.f k 4 1 512 248 96 1 1 3 100000 88 64 10416 2 1 4 81920 [] = some (0,0,0,false,0):=rfl
theorem enough_3 : resync_Enough.f 4 1 512 248 96 1 1 3 100000 88 64 10416 2 1 4 81920 3 = some true:=by
  unfold resync_Enough.f
  rw [show plan_Check.f 4 1 512 248 96 1 1 3 100000 88 64 10416 2 1 4 81920 = some 0 from check_ok fitP2 fit_ok]
  decide +kernel
theorem enough_2 : resync_Enough.f 4 1 512 248 96 1 1 3 100000 88 64 10416 2 1 4 81920 2 = some false:=by
  unfold resync_Enough.f
  rw [show plan_Check.f 4 1 512 248 96 1 1 3 100000 88 64 10416 2 1 4 81920 = some 0 from check_ok fitP2 fit_ok]
  decide +kernel
theorem enough_0 : resync_Enough.f 0 0 0 0 0 0 0 0 0 0 0 0 0 0 0 0 9 = some false:=by decide +kernel
theorem names_at (k : Nat) (hk : 100 ≤ k) : vesperslaw15_ResyncNames.f k = some true:=by
  unfold vesperslaw15_ResyncNames.f
  rw [some_eq,Option.bind_some]
  simp only []
  rw [corrected_ok [] 0 (by decide) (by decide) (corr_few _ (by decide)) k (by simp;omega),Option.bind_some,if_pos rfl]
  rw [corrected_ok [0,64,64] (-64) (by decide) (by decide) (corr_mid _ 64 _ (by decide) (mid_at _ 64 64 (by decide) (by decide) (by decide) (by decide) (by decide)) (by decide)) k (by simp;omega),Option.bind_some,if_pos rfl]
  rw [corrected_err [0,65,65] (by decide) (by decide) (corr_mid _ 65 _ (by decide) (mid_at _ 65 65 (by decide) (by decide) (by decide) (by decide) (by decide)) (by decide)) k (by simp;omega),Option.bind_some,if_pos rfl]
  rw [corrected_ok [0,-64,-64] 64 (by decide) (by decide) (corr_mid _ (-64) _ (by decide) (mid_at _ (-64) (-64) (by decide) (by decide) (by decide) (by decide) (by decide)) (by decide)) k (by simp;omega),Option.bind_some,if_pos rfl]
  rw [corrected_err [0,-65,-65] (by decide) (by decide) (corr_mid _ (-65) _ (by decide) (mid_at _ (-65) (-65) (by decide) (by decide) (by decide) (by decide) (by decide)) (by decide)) k (by simp;omega),Option.bind_some,if_pos rfl]
  rw [corrected_ok [0,1,2] (-1) (by decide) (by decide) (corr_mid _ 1 _ (by decide) (mid_at _ 1 1 (by decide) (by decide) (by decide) (by decide) (by decide)) (by decide)) k (by simp;omega),Option.bind_some,if_pos rfl]
  rw [corrected_bad k hk,Option.bind_some,if_pos rfl]
  rw [corrected_ok [-4294967296] 0 (by decide) (by decide) (corr_few _ (by decide)) k (by simp;omega),Option.bind_some]
  rw [turn_at 3 2 7 false [70,70,70] (0,151) (3,2,7,true,0,151) (by decide) (by decide) (corr_mid _ 70 _ (by decide) (mid_at _ 70 70 (by decide) (by decide) (by decide) (by decide) (by decide)) (by decide)) (by decide +kernel) k (by simp;omega),Option.bind_some]
  simp only []
  rw [turn_at 3 2 7 true [0,0,0] (0,0) (3,2,7,true,0,151) (by decide) (by decide) (corr_mid _ 0 _ (by decide) (mid_at _ 0 0 (by decide) (by decide) (by decide) (by decide) (by decide)) (by decide)) (by decide +kernel) k (by simp;omega),Option.bind_some]
  rw [turn_at 3 2 7 false [] (0,0) (4,2,7,false,0,0) (by decide) (by decide) (corr_few _ (by decide)) (by decide +kernel) k (by simp;omega),Option.bind_some]
  simp only [beq_self_eq_true,Bool.and_self,Bool.and_true,if_true]
  rw [turn_at 0 1 0 false [] (0,0) (0,0,0,false,0,150) (by decide) (by decide) (corr_few _ (by decide)) (by decide +kernel) k (by simp;omega),Option.bind_some]
  rw [turn_at (-1) 0 0 false [] (0,0) (0,0,0,false,0,150) (by decide) (by decide) (corr_few _ (by decide)) (by decide +kernel) k (by simp;omega),Option.bind_some]
  rw [turn_at 2147483647 0 0 false [] (0,0) (0,0,0,false,0,150) (by decide) (by decide) (corr_few _ (by decide)) (by decide +kernel) k (by simp;omega),Option.bind_some]
  rw [turn_at 1 0 4294967296 false [-5,-5,-5] (5,0) (0,0,0,false,0,150) (by decide) (by decide) (corr_mid _ (-5) _ (by decide) (mid_at _ (-5) (-5) (by decide) (by decide) (by decide) (by decide) (by decide)) (by decide)) (by decide +kernel) k (by simp;omega),Option.bind_some]
  rw [turn_zero k hk,Option.bind_some]
  rw [fold_a k hk,Option.bind_some]
  rw [fold_b k hk,Option.bind_some]
  rw [fold_c k,Option.bind_some]
  simp only [beq_self_eq_true,Bool.and_self,Bool.and_true,Bool.not_false,if_true]
  rw [alive_eq k hk,Option.bind_some,if_pos rfl]
  rw [enough_3,Option.bind_some,if_pos rfl,enough_2,Option.bind_some,if_neg (by decide),enough_0]
  rfl
end Go.Proofs.Ytnmephdamgofnaa.Mid
namespace Go.Proofs.Ytnmephdamgofnaa.Pure
open Go.RowKit Go.Proofs.Ytnmephdamgofnaa.Hand Go.Proofs.Ytnmephdamgofnaa.PM Go.Proofs.Ytnmephdamgofnaa.Mid Go.Proofs.YtnmephdamgofnaaW.PrintWords
theorem ResyncNames : vesperslaw15_ResyncNames.Pure:=⟨100,names_at 100 (by omega)⟩
end Go.Proofs.Ytnmephdamgofnaa.Pure
/- Written by a program of this session (wip/jprint.py, over the printer of the kit): functions that a law comes to, as plain Lean functions, and walks; Lean checks it. -/
namespace Go.Proofs.Ytnmephdamgofnaa.resyncNames
open Go.ChangeShapes Go.WideShapes Go.ChangeAt Go.RowKit
open Go.ChangeMaps (open_string shut_string)
set_option linter.unusedVariables false
theorem own : ownKnob Try.prog.godebug = none:=by kernel_rfl
set_option maxRecDepth 100000 in
theorem lifted (os : Os) (started : os.Started) (H : Type) (enc : TypeId × Value→H) :
    ReturnsInHanded {} Try.checked os 6 .any (Rows.resyncNamesSpec.pre6 enc Try.prog Try.f6 Rows.resyncNamesRow.domain false) (Rows.resyncNamesSpec.post enc Try.prog Try.f6 false true false false):=by
  refine returnsInHanded_of_change_sized (C:=Try.checked) own started (by kernel_rfl) Try.func6
    (ChangeSpec.witness6 (enc:=enc) (C:=Try.checked) false ⟨#[],#[],[]⟩ 8 (by kernel_rfl) (by kernel_rfl) (by kernel_rfl) (by kernel_rfl)) ?_
  intro W base args ds gs before hval0 hW hcnd hsz0 _
  have hsz : (DataW.weightsEach Try.prog (Try.f6.params.toList++Rows.resyncNamesSpec.plain.varTypes Try.prog) (ds++gs)).all (· ≤ reachBytes) = true:=hsz0
  have hval : ∀ (j : Nat) t v,Try.f6.params[j]? = some t→args[j]? = some v→Value.okWide Try.prog W .any base t v:=hval0
  have hW':=hW
  obtain ⟨p,q,hA0,hV,rfl,hfz,hnd⟩:=hW
  have hA : DataW.TrodAll enc Try.prog W 0 (fun _=>true) true Try.f6.params.toList args.toList ds p:=hA0
  rw [Try.params6] at hA hval hsz
  obtain ⟨rfl,rfl,rfl⟩:=trodAll_none hA
  obtain ⟨rfl,rfl⟩:=trodVars_none hV
  clear hA0 hval0 hsz0 hsz
  refine (PM.vesperslaw15_ResyncNames.walk Pure.ResyncNames  W ).mono fun e W' ⟨he,bel⟩=>?_
  subst he
  exact ⟨_,rfl,_,_,_,[],_,[],hW',trodAll_mk1 (shut_bool Try.underlying4 _),trodAll_mk0,rfl,bel.frame _,fun h=>by cases h⟩
theorem over : Rows.resyncNamesRow.holds Try.pinned (OpenSpec.ofChange Rows.resyncNamesSpec) :=
  OpenClaim.holds_of_wide 6 Try.f6 rfl rfl rfl rfl rfl rfl rfl ⟨rfl,rfl,rfl,rfl,rfl⟩ rfl rfl rfl rfl rfl (by kernel_rfl) Try.func6 (by kernel_rfl)
    (of_decide_eq_true (by kernel_rfl)) (by unfold Func.isWrapper;first|(rw [if_pos (by decide +kernel)];kernel_rfl)|(rw [if_neg (by decide +kernel)];exact ⟨rfl,rfl⟩))
    (fun os started H enc _=>lifted os started H enc)
theorem proved : Rows.ResyncNamesSaid:=over
#print axioms proved
end Go.Proofs.Ytnmephdamgofnaa.resyncNames
namespace Go.Proofs.Ytnmephdamgofnaa
/-- The row, under a short name, for the claim. -/
theorem resyncNames_holds : Rows.ResyncNamesSaid:=resyncNames.proved
end Go.Proofs.Ytnmephdamgofnaa
