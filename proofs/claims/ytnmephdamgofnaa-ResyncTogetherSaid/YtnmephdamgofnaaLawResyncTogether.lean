import Derived.Test.YtnmephdamgofnaaHandTrim
import Derived.Test.YtnmephdamgofnaaPBx2
import Derived.Test.YtnmephdamgofnaaPBx3
import Derived.Test.YtnmephdamgofnaaPTx2
import Derived.Test.YtnmephdamgofnaaRows
import Derived.WalkKit
import Derived.ProofKit
import Derived.OpenShut
import Derived.ShutString
import Derived.ChangeOld
import Derived.Below
import Derived.SizedLaws
import Derived.Lib.SmallJoins
import Derived.Test.YtnmephdamgofnaaWSized
/- The k-th of some numbers, by how many are at most a number; trimmed values. -/
set_option linter.unusedVariables false
set_option linter.unusedSimpArgs false
namespace Go.Proofs.Ytnmephdamgofnaa.Mid
open Go.RowKit Go.Proofs.Ytnmephdamgofnaa.Hand Go.Proofs.YtnmephdamgofnaaW.PrintWords

def cle (v : Int) (l : List Int) : Nat:=l.countP fun x=>decide (x ≤ v)
def srt (l : List Int) (i : Nat) : Int:=(sortL l).getD i 0
theorem sortL_perm (l : List Int) : (sortL l).Perm l:=List.mergeSort_perm _ _
theorem sortL_sorted (l : List Int) : (sortL l).Pairwise (fun x y=>x ≤ y):=by
  have:=List.pairwise_mergeSort (le:=fun x y : Int=>decide (x ≤ y)) (by intro a b c;simp;omega) (by intro a b;simp;omega) l
  refine this.imp ?_
  intro a b h
  simpa using h
theorem srt_get (l : List Int) (i : Nat) (h : i < (sortL l).length) : (sortL l)[i] = srt l i:=by
  unfold srt
  rw [List.getD_eq_getElem?_getD,List.getElem?_eq_getElem h,Option.getD_some]
theorem cle_sorted : ∀ (s : List Int),s.Pairwise (fun x y=>x ≤ y)→∀ (i : Nat) (h : i < s.length) (v : Int),s[i] ≤ v ↔ i < cle v s
  | [],_,i,h,_=>absurd h (Nat.not_lt_zero _)
  | x::t,hs,i,h,v=>by
    rw [List.pairwise_cons] at hs
    have ih:=cle_sorted t hs.2
    by_cases hx : x ≤ v
    · have e : cle v (x::t) = cle v t + 1:=by unfold cle;rw [List.countP_cons_of_pos (by simpa using hx)]
      rw [e]
      cases i with
      | zero=>simp [hx]
      | succ i=>rw [List.getElem_cons_succ,ih i (by simpa using h) v];omega
    · have e : cle v (x::t) = 0:=by
        unfold cle
        rw [List.countP_eq_zero]
        intro a ha
        rcases List.mem_cons.1 ha with rfl|ha
        · simpa using hx
        · have:=hs.1 a ha
          simp;omega
      rw [e]
      cases i with
      | zero=>simp;omega
      | succ i =>
        have:=hs.1 _ (List.getElem_mem (l:=t) (n:=i) (by simpa using h))
        simp;omega
theorem cle_sort (l : List Int) (v : Int) : cle v (sortL l) = cle v l:=(sortL_perm l).countP_eq _
/-- THE ONE LAW: the i-th is at most v just if more than i are. -/
theorem srt_le (l : List Int) (i : Nat) (h : i < l.length) (v : Int) : srt l i ≤ v ↔ i < cle v l:=by
  have h' : i < (sortL l).length:=by rw [sortL_len];exact h
  rw [← cle_sort l v,← srt_get l i h']
  exact cle_sorted _ (sortL_sorted l) i h' v
theorem srt_eq (l : List Int) (i : Nat) (v : Int) (h : i < l.length) (h1 : i < cle v l) (h2 : cle (v - 1) l ≤ i) : srt l i = v:=by
  have a:=(srt_le l i h v).2 h1
  have b:=srt_le l i h (v - 1)
  have : ¬ srt l i ≤ v - 1:=fun c=>by have:=b.1 c;omega
  omega
theorem srt_mono (l : List Int) (i j : Nat) (hij : i ≤ j) (h : j < l.length) : srt l i ≤ srt l j:=by
  have a:=(srt_le l j h (srt l j)).1 (Int.le_refl _)
  exact (srt_le l i (by omega) _).2 (by omega)
theorem srt_mem (l : List Int) (i : Nat) (h : i < l.length) : srt l i ∈ l:=by
  have h' : i < (sortL l).length:=by rw [sortL_len];exact h
  rw [← srt_get l i h']
  exact (sortL_perm l).mem_iff.1 (List.getElem_mem h')
theorem cle_le_len (l : List Int) (v : Int) : cle v l ≤ l.length:=List.countP_le_length
theorem cle_ge (l : List Int) (v : Int) : (l.countP fun x=>decide (v ≤ x)) + cle (v - 1) l = l.length:=by
  unfold cle
  induction l with
  | nil=>rfl
  | cons x t ih =>
    by_cases hx : v ≤ x
    · rw [List.countP_cons_of_pos (by simpa using hx),List.countP_cons_of_neg (by simp;omega)];simp;omega
    · rw [List.countP_cons_of_neg (by simpa using hx),List.countP_cons_of_pos (by simp;omega)];simp;omega
theorem srt_ext (a b : List Int) (hl : a.length = b.length) (h : ∀ v,cle v a = cle v b) (i : Nat) (hi : i < a.length) : srt a i = srt b i:=by
  have h1:=(srt_le a i hi (srt b i)).2 (by rw [h];exact (srt_le b i (by omega) _).1 (Int.le_refl _))
  have h2:=(srt_le b i (by omega) (srt a i)).2 (by rw [← h];exact (srt_le a i hi _).1 (Int.le_refl _))
  omega
theorem cle_perm {a b : List Int} (h : a.Perm b) (v : Int) : cle v a = cle v b:=h.countP_eq _
/-- Each is moved by at most d. -/
theorem srt_moved (ps : List (Int × Int)) (d : Int) (h : ∀ p ∈ ps,p.2 ≤ p.1 + d) (i : Nat) (hi : i < ps.length) : srt (ps.map Prod.snd) i ≤ srt (ps.map Prod.fst) i + d:=by
  rw [srt_le _ i (by simpa using hi)]
  have h1:=(srt_le (ps.map Prod.fst) i (by simpa using hi) _).1 (Int.le_refl _)
  refine Nat.lt_of_lt_of_le h1 ?_
  unfold cle
  rw [List.countP_map,List.countP_map]
  refine List.countP_mono_left ?_
  intro p hp hq
  have:=h p hp
  simp only [Function.comp,decide_eq_true_eq] at hq ⊢
  omega
theorem sortL_mem {l : List Int} {x : Int} : x ∈ sortL l ↔ x ∈ l:=(sortL_perm l).mem_iff

/-- Values that may be trimmed. -/
structure GoodM (l : List Int) (n : Nat) : Prop where
  room : 2 * n + 1 ≤ l.length
  big : l.length ≤ 1000000
  fine : ∀ x ∈ l,-4294967296 ≤ x∧x ≤ 4294967296
theorem GoodM.any {l : List Int} {n : Nat} (h : GoodM l n) : l.any wildB = false:=by
  rw [List.any_eq_false]
  intro x hx
  have:=h.fine x hx
  simp [wildB]
  omega
theorem Trim_good {l : List Int} {n : Nat} (h : GoodM l n) : midpoint_Trim.f l (n : Int) = some (trimL l (n : Int),0):=by
  have:=h.room
  unfold midpoint_Trim.f
  rw [if_neg (by omega),if_neg (by intro e;rw [e] at this;simp at this),if_neg (by omega),if_pos h.big,h.any]
  simp
theorem Trim_bad {l : List Int} {a : Int} (hb : l.length ≤ 1000000) (h : ∀ n : Nat,a = (n : Int)→¬ GoodM l n) : midpoint_Trim.f l a = some ([],140):=by
  unfold midpoint_Trim.f
  by_cases h1 : a < 0
  · rw [if_pos h1]
  rw [if_neg h1]
  by_cases h2 : l = []
  · rw [if_pos h2]
  rw [if_neg h2]
  by_cases h3 : ((l.length : Int) - 1) / 2 < a
  · rw [if_pos h3]
  rw [if_neg h3,if_pos hb]
  by_cases h4 : l.any wildB = true
  · rw [if_pos h4]
  exfalso
  have hpos : 1 ≤ l.length:=by cases l with|nil=>exact absurd rfl h2|cons _ _=>simp
  refine h a.toNat (by omega) ⟨by omega,hb,fun x hx=>?_⟩
  have:=List.any_eq_false.1 (by simpa using h4) x hx
  simp [wildB] at this
  omega
theorem trimL_eq (l : List Int) (n : Nat) : trimL l (n : Int) = (List.range (l.length - 2 * n)).map fun j=>srt l (n + j):=by
  unfold trimL
  rw [Int.toNat_natCast]
  apply List.ext_getElem
  · simp [sortL_len];omega
  · intro j h1 h2
    have h3 : j < l.length - 2 * n:=by simpa using h2
    simp only [List.getElem_take,List.getElem_drop,List.getElem_map,List.getElem_range]
    exact srt_get l (n + j) _
theorem trimL_len (l : List Int) (n : Nat) : (trimL l (n : Int)).length = l.length - 2 * n:=by rw [trimL_eq];simp
theorem trimL_rd (l : List Int) (n j : Nat) (h : j < l.length - 2 * n) : rd (trimL l (n : Int)) (j : Int) = srt l (n + j):=by
  unfold rd
  rw [trimL_eq,Int.toNat_natCast,List.getD_eq_getElem?_getD,List.getElem?_map,List.getElem?_range h]
  rfl
theorem srt_fine {l : List Int} {n : Nat} (h : GoodM l n) (i : Nat) (hi : i < l.length) : -4294967296 ≤ srt l i∧srt l i ≤ 4294967296:=h.fine _ (srt_mem l i hi)
end Go.Proofs.Ytnmephdamgofnaa.Mid
/- Plain facts: a plan that may be, and what resync's functions answer. -/
set_option linter.unusedVariables false
set_option linter.unusedSimpArgs false
namespace Go.Proofs.Ytnmephdamgofnaa.Mid
open Go.RowKit Go.Proofs.Ytnmephdamgofnaa.Hand Go.Proofs.Ytnmephdamgofnaa.PA Go.Proofs.Ytnmephdamgofnaa.PB Go.Proofs.YtnmephdamgofnaaW.PrintWords Go.Proofs.YtnmephdamgofnaaW.PrintMore

theorem wrap_id {x : Int} (h0 : -9223372036854775808 ≤ x) (h1 : x ≤ 9223372036854775807) : wrap64 x = x:=by
  unfold wrap64
  omega
theorem ends_loop (xs : List Int) (hl : xs.length ≤ 1000000) (m : Int) (hm : ∀ i : Nat,i < xs.length→m ≤ rd xs (i : Int)) (hmono : ∀ i j : Nat,i ≤ j→j < xs.length→rd xs (i : Int) ≤ rd xs (j : Int)) :
    ∀ (d k i : Nat) (x5 : Int),i + d = xs.length→d < k→(∀ j : Nat,i ≤ j→j < xs.length→x5 ≤ rd xs (j : Int))→midpoint_ends_int64.l0 k m x5 xs (xs.length : Int) (i : Int) = some (m,if i = xs.length then x5 else rd xs ((xs.length - 1 : Nat) : Int)):=by
  intro d
  induction d with
  | zero =>
    intro k i x5 hi hk hx
    obtain ⟨k,rfl⟩ : ∃ m,k = m + 1:=⟨k - 1,by omega⟩
    simp only [midpoint_ends_int64.l0]
    rw [if_neg (by omega),if_pos (by omega)]
  | succ d ih =>
    intro k i x5 hi hk hx
    obtain ⟨k,rfl⟩ : ∃ m,k = m + 1:=⟨k - 1,by omega⟩
    simp only [midpoint_ends_int64.l0]
    have e1 : mn m (rd xs (i : Int)) = m:=by unfold mn;rw [if_neg (by have:=hm i (by omega);omega)]
    have e2 : mx x5 (rd xs (i : Int)) = rd xs (i : Int):=by
      unfold mx
      have:=hx i (Nat.le_refl _) (by omega)
      split <;> omega
    rw [if_pos (by omega),if_pos (by omega),if_pos (by omega),e1,e2,wrap_id (by omega) (by omega),show (i : Int) + 1 = ((i + 1 : Nat) : Int) by omega,ih k (i + 1) _ (by omega) (by omega) (fun j h1 h2=>hmono i j (by omega) h2)]
    by_cases he : i + 1 = xs.length
    · rw [if_pos he,if_neg (by omega),show xs.length - 1 = i by omega]
    · rw [if_neg he,if_neg (by omega)]
theorem rd_drop1 (xs : List Int) (j : Nat) : rd (xs.drop 1) (j : Int) = rd xs ((j + 1 : Nat) : Int):=by
  unfold rd
  rw [Int.toNat_natCast,Int.toNat_natCast,List.getD_eq_getElem?_getD,List.getD_eq_getElem?_getD,List.getElem?_drop,Nat.add_comm]
theorem ends_trim {l : List Int} {n : Nat} (h : GoodM l n) (k : Nat) (hk : l.length < k) : midpoint_ends_int64.f k (rd (trimL l (n : Int)) 0) ((trimL l (n : Int)).drop 1) = some (srt l n,srt l (l.length - 1 - n)):=by
  have hr:=h.room
  have hb:=h.big
  have hlen:=trimL_len l n
  have hd : ((trimL l (n : Int)).drop 1).length = l.length - 2 * n - 1:=by rw [List.length_drop,hlen]
  have h0 : rd (trimL l (n : Int)) 0 = srt l n:=by have:=trimL_rd l n 0 (by omega);simpa using this
  have hj : ∀ j : Nat,j < l.length - 2 * n - 1→rd ((trimL l (n : Int)).drop 1) (j : Int) = srt l (n + j + 1):=fun j h1=>by
    rw [rd_drop1,trimL_rd l n (j + 1) (by omega),Nat.add_assoc]
  unfold midpoint_ends_int64.f
  have:=ends_loop ((trimL l (n : Int)).drop 1) (by omega) (srt l n) (fun i hi=>by rw [hj i (by omega)];exact srt_mono l n _ (by omega) (by omega))
    (fun i j h1 h2=>by rw [hj i (by omega),hj j (by omega)];exact srt_mono l _ _ (by omega) (by omega)) ((trimL l (n : Int)).drop 1).length k 0 (srt l n) (by omega) (by omega) (fun j h1 h2=>by rw [hj j (by omega)];exact srt_mono l n _ (by omega) (by omega))
  rw [h0]
  rw [show ((0 : Nat) : Int) = 0 from rfl] at this
  rw [this]
  congr 2
  by_cases he : 0 = ((trimL l (n : Int)).drop 1).length
  · rw [if_pos he,show l.length - 1 - n = n by omega]
  · rw [if_neg he,hj _ (by omega),hd,show n + (l.length - 2 * n - 1 - 1) + 1 = l.length - 1 - n by omega]
theorem Of_good {l : List Int} {n : Nat} (h : GoodM l n) (k : Nat) (hk : l.length < k) : midpoint_Of.f k l (n : Int) = some ((srt l n + srt l (l.length - 1 - n)) / 2,0):=by
  have hr:=h.room
  have f1:=srt_fine h n (by omega)
  have f2:=srt_fine h (l.length - 1 - n) (by omega)
  unfold midpoint_Of.f
  rw [Trim_good h,Option.bind_some]
  simp only [if_true]
  rw [if_pos (by rw [trimL_len];omega),if_pos (by rw [trimL_len];omega),ends_trim h k hk,Option.bind_some,wrap_id (by omega) (by omega)]
theorem Of_bad {l : List Int} {a : Int} (hb : l.length ≤ 1000000) (h : ∀ n : Nat,a = (n : Int)→¬ GoodM l n) (k : Nat) : midpoint_Of.f k l a = some (0,140):=by
  unfold midpoint_Of.f
  rw [Trim_bad hb h,Option.bind_some]
  rfl

theorem wfi64 {a : Int} (h : (Lit.int .i64 a).wf = true) : -9223372036854775808 ≤ a∧a ≤ 9223372036854775807:=by
  have : (decide (IntKind.i64.min ≤ a) && decide (a ≤ IntKind.i64.max)) = true:=h
  rw [show IntKind.i64.min = -9223372036854775808 by decide,show IntKind.i64.max = 9223372036854775807 by decide] at this
  simpa using this
theorem in_eq (a b c : Int) : plan_in.f a b c = some (decide (b ≤ a∧a ≤ c)):=by
  unfold plan_in.f
  by_cases h : b ≤ a
  · rw [if_pos h];congr 1;simp [h]
  · rw [if_neg h];congr 1;simp [h]
/-- A plan that may be: all conditions hold. -/
def planOk (p : Pl) : Prop:=∀ i,1 ≤ i→i ≤ 11→condO p i = some true
theorem g_some (p : Pl) (h : p.a8 ≠ 0) : ∃ v,plan_look_g.f p.a0 p.a1 p.a2 p.a3 p.a4 p.a5 p.a6 p.a7 p.a8 p.a9 p.a10 p.a11 p.a12 p.a13 p.a14 p.a15 = some v:=by
  unfold plan_look_g.f plan_look_round.f
  rw [Option.bind_some,if_neg h]
  exact ⟨_,rfl⟩
theorem a_some (p : Pl) (h : p.a8 ≠ 0) : ∃ v,plan_look_a.f p.a0 p.a1 p.a2 p.a3 p.a4 p.a5 p.a6 p.a7 p.a8 p.a9 p.a10 p.a11 p.a12 p.a13 p.a14 p.a15 = some v:=by
  obtain ⟨v,hv⟩:=g_some p h
  unfold plan_look_a.f plan_look_e.f
  rw [Option.bind_some,hv,Option.bind_some]
  exact ⟨_,rfl⟩
theorem cond_some (p : Pl) (i : Nat) (h1 : 1 ≤ i) (h2 : i ≤ 11) (h8 : 4 ≤ i→p.a8 ≠ 0) (h13 : 10 ≤ i→p.a13 ≠ 0) : ∃ b,condO p i = some b:=by
  match i,h1,h2 with
  | 1,_,_=>show ∃ b,plan_look_nodes.f p.a0 p.a1 p.a2 p.a3 p.a4 p.a5 p.a6 p.a7 p.a8 p.a9 p.a10 p.a11 p.a12 p.a13 p.a14 p.a15 = some b;unfold plan_look_nodes.f;rw [in_eq,Option.bind_some];split;(· rw [in_eq];exact ⟨_,rfl⟩);exact ⟨_,rfl⟩
  | 2,_,_=>show ∃ b,plan_look_air.f p.a0 p.a1 p.a2 p.a3 p.a4 p.a5 p.a6 p.a7 p.a8 p.a9 p.a10 p.a11 p.a12 p.a13 p.a14 p.a15 = some b;unfold plan_look_air.f;rw [in_eq,Option.bind_some];split;(· split;(· rw [in_eq];exact ⟨_,rfl⟩);exact ⟨_,rfl⟩);exact ⟨_,rfl⟩
  | 3,_,_=>show ∃ b,plan_look_slot.f p.a0 p.a1 p.a2 p.a3 p.a4 p.a5 p.a6 p.a7 p.a8 p.a9 p.a10 p.a11 p.a12 p.a13 p.a14 p.a15 = some b;unfold plan_look_slot.f;rw [in_eq,Option.bind_some];split;(· rw [in_eq];exact ⟨_,rfl⟩);exact ⟨_,rfl⟩
  | 4,_,_ =>
    show ∃ b,plan_look_pi.f p.a0 p.a1 p.a2 p.a3 p.a4 p.a5 p.a6 p.a7 p.a8 p.a9 p.a10 p.a11 p.a12 p.a13 p.a14 p.a15 = some b
    obtain ⟨v,hv⟩:=g_some p (h8 (by omega));obtain ⟨u,hu⟩:=a_some p (h8 (by omega))
    unfold plan_look_pi.f plan_look_leastPi.f plan_look_e.f
    rw [hu,Option.bind_some,hv,Option.bind_some,Option.bind_some,Option.bind_some,in_eq]
    exact ⟨_,rfl⟩
  | 5,_,_=>show ∃ b,plan_look_window.f p.a0 p.a1 p.a2 p.a3 p.a4 p.a5 p.a6 p.a7 p.a8 p.a9 p.a10 p.a11 p.a12 p.a13 p.a14 p.a15 = some b;unfold plan_look_window.f plan_look_leastWindow.f plan_look_e.f;rw [Option.bind_some,Option.bind_some,in_eq];exact ⟨_,rfl⟩
  | 6,_,_ =>
    show ∃ b,plan_look_limit.f p.a0 p.a1 p.a2 p.a3 p.a4 p.a5 p.a6 p.a7 p.a8 p.a9 p.a10 p.a11 p.a12 p.a13 p.a14 p.a15 = some b
    obtain ⟨v,hv⟩:=g_some p (h8 (by omega));obtain ⟨u,hu⟩:=a_some p (h8 (by omega))
    unfold plan_look_limit.f plan_look_leastCap.f plan_look_e.f
    rw [hu,Option.bind_some,hv,Option.bind_some,Option.bind_some,Option.bind_some,in_eq]
    exact ⟨_,rfl⟩
  | 7,_,_=>show ∃ b,plan_look_sends.f p.a0 p.a1 p.a2 p.a3 p.a4 p.a5 p.a6 p.a7 p.a8 p.a9 p.a10 p.a11 p.a12 p.a13 p.a14 p.a15 = some b;unfold plan_look_sends.f plan_look_leastOff.f;rw [Option.bind_some,in_eq];exact ⟨_,rfl⟩
  | 8,_,_=>show ∃ b,plan_look_fits.f p.a0 p.a1 p.a2 p.a3 p.a4 p.a5 p.a6 p.a7 p.a8 p.a9 p.a10 p.a11 p.a12 p.a13 p.a14 p.a15 = some b;unfold plan_look_fits.f plan_look_leastSlot.f;exact ⟨_,rfl⟩
  | 9,_,_=>show ∃ b,plan_look_queue.f p.a0 p.a1 p.a2 p.a3 p.a4 p.a5 p.a6 p.a7 p.a8 p.a9 p.a10 p.a11 p.a12 p.a13 p.a14 p.a15 = some b;unfold plan_look_queue.f;rw [in_eq,Option.bind_some];split;(· rw [in_eq,Option.bind_some];split;(· rw [in_eq];exact ⟨_,rfl⟩);exact ⟨_,rfl⟩);exact ⟨_,rfl⟩
  | 10,_,_ =>
    show ∃ b,plan_look_delta.f p.a0 p.a1 p.a2 p.a3 p.a4 p.a5 p.a6 p.a7 p.a8 p.a9 p.a10 p.a11 p.a12 p.a13 p.a14 p.a15 = some b
    unfold plan_look_delta.f plan_look_leastDelta.f plan_look_round.f
    rw [if_neg (h13 (by omega)),Option.bind_some,Option.bind_some,Option.bind_some,in_eq]
    exact ⟨_,rfl⟩
  | 11,_,_=>show ∃ b,plan_look_horizon.f p.a0 p.a1 p.a2 p.a3 p.a4 p.a5 p.a6 p.a7 p.a8 p.a9 p.a10 p.a11 p.a12 p.a13 p.a14 p.a15 = some b;unfold plan_look_horizon.f plan_look_round.f;rw [Option.bind_some,in_eq];exact ⟨_,rfl⟩
theorem slot_rho (p : Pl) (h : condO p 3 = some true) : (1 ≤ p.a2∧p.a2 ≤ 1048576)∧4 ≤ p.a8∧p.a8 ≤ 1048576:=by
  have h : plan_look_slot.f p.a0 p.a1 p.a2 p.a3 p.a4 p.a5 p.a6 p.a7 p.a8 p.a9 p.a10 p.a11 p.a12 p.a13 p.a14 p.a15 = some true:=h
  unfold plan_look_slot.f at h
  rw [in_eq,Option.bind_some] at h
  split at h
  · rename_i h1
    rw [in_eq,Option.bind_some] at h
    have h2:=Option.some.inj h
    simp at h1 h2
    omega
  · cases h
theorem queue_13 (p : Pl) (h : condO p 9 = some true) : 1 ≤ p.a13:=by
  have h : plan_look_queue.f p.a0 p.a1 p.a2 p.a3 p.a4 p.a5 p.a6 p.a7 p.a8 p.a9 p.a10 p.a11 p.a12 p.a13 p.a14 p.a15 = some true:=h
  unfold plan_look_queue.f at h
  rw [in_eq,Option.bind_some] at h
  split at h
  · rw [in_eq,Option.bind_some] at h
    split at h
    · rename_i h1;simp at h1;omega
    · cases h
  · cases h
theorem nodes_k (p : Pl) (h : condO p 1 = some true) : (4 ≤ p.a0∧p.a0 ≤ 16)∧0 ≤ p.a1∧p.a1 ≤ 7∧2 * p.a1 + 2 ≤ p.a0:=by
  have h : plan_look_nodes.f p.a0 p.a1 p.a2 p.a3 p.a4 p.a5 p.a6 p.a7 p.a8 p.a9 p.a10 p.a11 p.a12 p.a13 p.a14 p.a15 = some true:=h
  unfold plan_look_nodes.f at h
  rw [in_eq,Option.bind_some] at h
  split at h
  · rename_i h1
    simp at h1
    rw [in_eq,Option.bind_some] at h
    have h2:=Option.some.inj h
    simp only [decide_eq_true_eq] at h2
    rw [wrap_id (x:=p.a0 - 2) (by omega) (by omega),Int.tdiv_eq_ediv_of_nonneg (by omega),wrap_id (by omega) (by omega)] at h2
    omega
  · cases h
theorem air_d (p : Pl) (h : condO p 2 = some true) : (1 ≤ p.a5∧p.a5 ≤ 1048576)∧0 ≤ p.a6∧p.a6 ≤ p.a7∧p.a7 ≤ 1048576:=by
  have h : plan_look_air.f p.a0 p.a1 p.a2 p.a3 p.a4 p.a5 p.a6 p.a7 p.a8 p.a9 p.a10 p.a11 p.a12 p.a13 p.a14 p.a15 = some true:=h
  unfold plan_look_air.f at h
  rw [in_eq,Option.bind_some] at h
  split at h
  · rename_i h1
    simp at h1
    split at h
    · rename_i h3
      rw [in_eq,Option.bind_some] at h
      have h2:=Option.some.inj h
      simp only [decide_eq_true_eq] at h2
      omega
    · cases h
  · cases h
/-- What the greatest correction is at least. -/
theorem cap_pos (p : Pl) (h1 : condO p 1 = some true) (h2 : condO p 2 = some true) (h3 : condO p 3 = some true) (h6 : condO p 6 = some true) : 0 ≤ p.a10∧p.a10 ≤ 1048576:=by
  have n:=nodes_k p h1
  have a:=air_d p h2
  have s:=slot_rho p h3
  have h : plan_look_limit.f p.a0 p.a1 p.a2 p.a3 p.a4 p.a5 p.a6 p.a7 p.a8 p.a9 p.a10 p.a11 p.a12 p.a13 p.a14 p.a15 = some true:=h6
  have r0 : 0 ≤ p.a0 * p.a2:=Int.mul_nonneg (by omega) (by omega)
  have r1 : p.a0 * p.a2 ≤ 16 * 1048576:=Int.mul_le_mul n.1.2 s.1.2 (by omega) (by omega)
  have q0 : 0 ≤ Int.tdiv (2 * (p.a0 * p.a2)) p.a8:=Int.tdiv_nonneg (by omega) (by omega)
  have q1 : Int.tdiv (2 * (p.a0 * p.a2)) p.a8 ≤ 2 * (p.a0 * p.a2):=by
    rw [Int.tdiv_eq_ediv_of_nonneg (by omega)]
    exact Int.ediv_le_self _ (by omega)
  unfold plan_look_limit.f plan_look_leastCap.f plan_look_a.f plan_look_e.f plan_look_g.f plan_look_round.f at h
  simp only [Option.bind_some] at h
  rw [if_neg (by omega)] at h
  simp only [Option.bind_some] at h
  rw [in_eq,Option.bind_some] at h
  rw [wrap_id (x:=p.a0 * p.a2) (by omega) (by omega),wrap_id (x:=2 * (p.a0 * p.a2)) (by omega) (by omega)] at h
  generalize Int.tdiv (2 * (p.a0 * p.a2)) p.a8 = q at q0 q1 h
  rw [wrap_id (x:=q) (by omega) (by omega),wrap_id (x:=q + 4) (by omega) (by omega),wrap_id (x:=2 * (q + 4)) (by omega) (by omega),wrap_id (x:=p.a7 - p.a6) (by omega) (by omega),wrap_id (x:=p.a7 - p.a6 + 6) (by omega) (by omega),
    wrap_id (x:=p.a7 - p.a6 + 6 + 2 * (q + 4)) (by omega) (by omega),wrap_id (x:=2 * (p.a7 - p.a6 + 6 + 2 * (q + 4))) (by omega) (by omega),wrap_id (x:=2 * (2 * (q + 4))) (by omega) (by omega),wrap_id (x:=2 * (p.a7 - p.a6 + 6)) (by omega) (by omega),
    wrap_id (x:=2 * (p.a7 - p.a6 + 6 + 2 * (q + 4)) + 2 * (2 * (q + 4))) (by omega) (by omega),wrap_id (by omega) (by omega)] at h
  have h2:=Option.some.inj h
  simp only [decide_eq_true_eq] at h2
  omega
theorem failsC_total (c : Nat→Option Bool) : ∀ (k j : Nat),1 ≤ j→(∀ i,j ≤ i→i < j + k→(∀ m,j ≤ m→m < i→c m = some true)→∃ b,c i = some b) →
    ∃ r : Int,failsC c k j = some r∧((r = 0∧∀ i,j ≤ i→i < j + k→c i = some true) ∨ (1 ≤ r∧¬ ∀ i,j ≤ i→i < j + k→c i = some true))
  | 0,j,_,_=>⟨0,rfl,.inl ⟨rfl,fun i h1 h2=>by omega⟩⟩
  | k + 1,j,hj,h=>by
    obtain ⟨b,hb⟩:=h j (Nat.le_refl _) (by omega) (fun m h1 h2=>by omega)
    cases b with
    | false =>
      refine ⟨(j : Int),by unfold failsC;rw [hb];rfl,.inr ⟨by omega,fun q=>?_⟩⟩
      have:=q j (Nat.le_refl _) (by omega)
      rw [hb] at this
      cases this
    | true =>
      obtain ⟨r,hr,hx⟩:=failsC_total c k (j + 1) (by omega) (fun i h1 h2 h3=>h i (by omega) (by omega) (fun m q1 q2=>by
        by_cases e : m = j
        · rw [e];exact hb
        · exact h3 m (by omega) q2))
      refine ⟨r,by unfold failsC;rw [hb];exact hr,?_⟩
      rcases hx with ⟨h0,hx⟩|⟨h0,hx⟩
      · refine .inl ⟨h0,fun i h1 h2=>?_⟩
        by_cases e : i = j
        · rw [e];exact hb
        · exact hx i (by omega) (by omega)
      · exact .inr ⟨h0,fun q=>hx fun i h1 h2=>q i (by omega) (by omega)⟩
theorem fails_total (p : Pl) : ∃ r : Int,plan_Fails.f p.a0 p.a1 p.a2 p.a3 p.a4 p.a5 p.a6 p.a7 p.a8 p.a9 p.a10 p.a11 p.a12 p.a13 p.a14 p.a15 = some r∧((r = 0∧planOk p) ∨ (1 ≤ r∧¬ planOk p)):=by
  obtain ⟨r,hr,hx⟩:=failsC_total (condO p) 11 1 (Nat.le_refl _) (fun i h1 h2 h3=>cond_some p i h1 (by omega) (fun h4=>by have:=slot_rho p (h3 3 (by omega) (by omega));omega) (fun h10=>by have:=queue_13 p (h3 9 (by omega) (by omega));omega))
  refine ⟨r,hr,?_⟩
  rcases hx with ⟨h0,hx⟩|⟨h0,hx⟩
  · exact .inl ⟨h0,fun i h1 h2=>hx i h1 (by omega)⟩
  · exact .inr ⟨h0,fun q=>hx fun i h1 h2=>q i h1 (by omega)⟩
theorem check_ok (p : Pl) (h : planOk p) : plan_Check.f p.a0 p.a1 p.a2 p.a3 p.a4 p.a5 p.a6 p.a7 p.a8 p.a9 p.a10 p.a11 p.a12 p.a13 p.a14 p.a15 = some 0:=by
  obtain ⟨r,hr,hx⟩:=fails_total p
  rcases hx with ⟨h0,_⟩|⟨_,hn⟩
  · unfold plan_Check.f;rw [hr,h0];rfl
  · exact absurd h hn
theorem check_no (p : Pl) (h : ¬ planOk p) : plan_Check.f p.a0 p.a1 p.a2 p.a3 p.a4 p.a5 p.a6 p.a7 p.a8 p.a9 p.a10 p.a11 p.a12 p.a13 p.a14 p.a15 = some 70:=by
  obtain ⟨r,hr,hx⟩:=fails_total p
  rcases hx with ⟨_,hy⟩|⟨h0,_⟩
  · exact absurd hy h
  · unfold plan_Check.f;rw [hr,Option.bind_some,if_neg (by omega)]
theorem ok_k (p : Pl) (h : planOk p) : (4 ≤ p.a0∧p.a0 ≤ 16)∧0 ≤ p.a1∧p.a1 ≤ 7∧2 * p.a1 + 2 ≤ p.a0:=nodes_k p (h 1 (by omega) (by omega))
theorem ok_cap (p : Pl) (h : planOk p) : 0 ≤ p.a10∧p.a10 ≤ 1048576:=cap_pos p (h 1 (by omega) (by omega)) (h 2 (by omega) (by omega)) (h 3 (by omega) (by omega)) (h 6 (by omega) (by omega))
/-- Values that may be. -/
def fineB (l : List Int) : Bool:=l.all fun x=>decide (-4294967296 ≤ x∧x ≤ 4294967296)
theorem fine_iff (l : List Int) : fineB l = true ↔ ∀ x ∈ l,-4294967296 ≤ x∧x ≤ 4294967296:=by
  unfold fineB
  rw [List.all_eq_true]
  simp
theorem values_l0 (l : List Int) (hl : l.length ≤ 1000000) : ∀ (d i k : Nat),l.length - i = d→i ≤ l.length→d < k→resync_values.l0 k l (l.length : Int) (i : Int) = some (fineB (l.drop i)):=by
  intro d
  induction d with
  | zero =>
    intro i k hd hi hk
    obtain ⟨k,rfl⟩ : ∃ j,k = j + 1:=⟨k - 1,by omega⟩
    simp only [resync_values.l0]
    rw [if_neg (by omega),List.drop_of_length_le (by omega)]
    rfl
  | succ d ih =>
    intro i k hd hi hk
    obtain ⟨k,rfl⟩ : ∃ j,k = j + 1:=⟨k - 1,by omega⟩
    have hlt : i < l.length:=by omega
    have hrd : rd l (i : Int) = l[i]:=by simp [rd,hlt]
    have hstep:=ih (i + 1) k (by omega) (by omega) (by omega)
    rw [show ((i + 1 : Nat) : Int) = (i : Int) + 1 by omega] at hstep
    simp only [resync_values.l0]
    rw [if_pos (by omega),if_pos (by omega),if_pos (by omega),hrd,wrap_id (x:=(i : Int) + 1) (by omega) (by omega),hstep,List.drop_eq_getElem_cons hlt]
    have e : fineB (l[i]::l.drop (i + 1)) = (decide (-4294967296 ≤ l[i]∧l[i] ≤ 4294967296) && fineB (l.drop (i + 1))):=rfl
    rw [e]
    by_cases c1 : l[i] < -4294967296
    · rw [if_pos c1,decide_eq_false (by omega)];rfl
    · rw [if_neg c1]
      by_cases c2 : l[i] > 4294967296
      · rw [if_pos c2,decide_eq_false (by omega)];rfl
      · rw [if_neg c2,decide_eq_true (by omega)];rfl
theorem values_eq (l : List Int) (hl : l.length ≤ 1000000) (k : Nat) (hk : l.length < k) : resync_values.f k l = some (fineB l):=by
  unfold resync_values.f
  have:=values_l0 l hl l.length 0 k (by omega) (by omega) hk
  simpa using this
/-- The midpoint, for a plan. -/
def midP (p : Pl) (l : List Int) : Int:=(srt l p.a1.toNat + srt l (l.length - 1 - p.a1.toNat)) / 2
/-- What the correction is. -/
def corrP (p : Pl) (l : List Int) : Int × Int:=if 2 * p.a1 + 1 ≤ (l.length : Int) then (if midP p l > p.a10 ∨ -midP p l > p.a10 then (0,151) else (-midP p l,0)) else (0,0)
theorem good_of (p : Pl) (hp : planOk p) (l : List Int) (hl : l.length ≤ 1000000) (hf : fineB l = true) (h : 2 * p.a1 + 1 ≤ (l.length : Int)) : GoodM l p.a1.toNat:=by
  have:=ok_k p hp
  exact ⟨by omega,hl,(fine_iff l).1 hf⟩
theorem midP_in (p : Pl) (hp : planOk p) (l : List Int) (hl : l.length ≤ 1000000) (hf : fineB l = true) (h : 2 * p.a1 + 1 ≤ (l.length : Int)) : -4294967296 ≤ midP p l∧midP p l ≤ 4294967296:=by
  have hk:=ok_k p hp
  have g:=good_of p hp l hl hf h
  have f1:=srt_fine g p.a1.toNat (by omega)
  have f2:=srt_fine g (l.length - 1 - p.a1.toNat) (by omega)
  unfold midP
  omega
theorem enough_eq (p : Pl) (hp : planOk p) (n : Int) (hn : 0 ≤ n) : resync_Enough.f p.a0 p.a1 p.a2 p.a3 p.a4 p.a5 p.a6 p.a7 p.a8 p.a9 p.a10 p.a11 p.a12 p.a13 p.a14 p.a15 n = some (decide (2 * p.a1 + 1 ≤ n)):=by
  have hk:=ok_k p hp
  unfold resync_Enough.f
  rw [check_ok p hp,Option.bind_some,if_pos rfl,wrap_id (x:=2 * p.a1) (by omega) (by omega),wrap_id (x:=2 * p.a1 + 1) (by omega) (by omega)]
theorem corr_ok (p : Pl) (hp : planOk p) (l : List Int) (hl : l.length ≤ 1000000) (hf : fineB l = true) (k : Nat) (hk : l.length + 10 < k) : resync_Correction.f k p.a0 p.a1 p.a2 p.a3 p.a4 p.a5 p.a6 p.a7 p.a8 p.a9 p.a10 p.a11 p.a12 p.a13 p.a14 p.a15 l = some (corrP p l):=by
  have hkk:=ok_k p hp
  obtain ⟨k,rfl⟩ : ∃ j,k = j + 1:=⟨k - 1,by omega⟩
  unfold resync_Correction.f
  rw [check_ok p hp,Option.bind_some,if_pos rfl,values_eq l hl _ (by omega),hf,Option.bind_some]
  simp only [resync_Correction.j0,Bool.not_true,Bool.false_eq_true,if_false]
  rw [enough_eq p hp _ (by omega),Option.bind_some]
  unfold corrP
  by_cases h : 2 * p.a1 + 1 ≤ (l.length : Int)
  · have g:=good_of p hp l hl hf h
    have hm:=midP_in p hp l hl hf h
    have hO:=Of_good g k (by omega)
    rw [show ((p.a1.toNat : Nat) : Int) = p.a1 by omega] at hO
    rw [decide_eq_true h,if_pos rfl,hO,Option.bind_some,if_pos h]
    simp only [if_true]
    rw [show (srt l p.a1.toNat + srt l (l.length - 1 - p.a1.toNat)) / 2 = midP p l from rfl]
    rw [wrap_id (x:=-midP p l) (by omega) (by omega)]
    by_cases c : midP p l > p.a10 ∨ -midP p l > p.a10
    · rw [if_pos c,if_pos (by unfold mx;split <;> omega)]
    · rw [if_neg c,if_neg (by unfold mx;split <;> omega)]
  · rw [decide_eq_false h,if_neg (by decide),if_neg h]
theorem corr_bad (p : Pl) (l : List Int) (hl : l.length ≤ 1000000) (h : ¬ (planOk p∧fineB l = true)) (k : Nat) (hk : l.length + 10 < k) : resync_Correction.f k p.a0 p.a1 p.a2 p.a3 p.a4 p.a5 p.a6 p.a7 p.a8 p.a9 p.a10 p.a11 p.a12 p.a13 p.a14 p.a15 l = some (0,150):=by
  obtain ⟨k,rfl⟩ : ∃ j,k = j + 1:=⟨k - 1,by omega⟩
  unfold resync_Correction.f
  by_cases hp : planOk p
  · have hf : fineB l = false:=by
      cases hq : fineB l with
      | true=>exact absurd ⟨hp,hq⟩ h
      | false=>rfl
    rw [check_ok p hp,Option.bind_some,if_pos rfl,values_eq l hl _ (by omega),hf,Option.bind_some]
    simp only [resync_Correction.j0,Bool.not_false,if_true]
  · rw [check_no p hp,Option.bind_some,if_neg (by decide)]
    simp only [resync_Correction.j0,if_true]
/-- May what was done be? -/
def mayB (a b c : Int) (d : Bool) : Bool:=decide (0 ≤ a∧a ≤ 2147483647∧0 ≤ b∧b ≤ a∧-4294967296 ≤ c∧c ≤ 4294967296)
theorem may_eq (a b c : Int) (d : Bool) : resync_may.f a b c d = some (mayB a b c d):=by
  unfold resync_may.f mayB
  by_cases h : (a == 0 && (b == 0 && (c == 0 && (!d)))) = true
  · rw [if_pos h]
    simp at h
    obtain ⟨rfl,rfl,rfl,_⟩:=h
    rfl
  rw [if_neg h]
  by_cases c1 : a ≥ 0
  · rw [if_pos c1]
    by_cases c2 : a ≤ 2147483647
    · rw [if_pos c2]
      by_cases c3 : b ≥ 0
      · rw [if_pos c3]
        by_cases c4 : b ≤ a
        · rw [if_pos c4]
          by_cases c5 : c ≥ -4294967296
          · rw [if_pos c5];congr 1;rw [decide_eq_decide];omega
          · rw [if_neg c5];congr 1;exact (decide_eq_false (by omega)).symm
        · rw [if_neg c4];congr 1;exact (decide_eq_false (by omega)).symm
      · rw [if_neg c3];congr 1;exact (decide_eq_false (by omega)).symm
    · rw [if_neg c2];congr 1;exact (decide_eq_false (by omega)).symm
  · rw [if_neg c1];congr 1;exact (decide_eq_false (by omega)).symm
/-- What is done behind a round, out of the correction. -/
def turnC (c : Int × Int) (a b t : Int) (d : Bool) : Int × Int × Int × Bool × Int × Int :=
  if c.2 = 150 ∨ mayB a b t d = false then (0,0,0,false,0,150)
  else if c.2 = 151 ∨ d = true then (a,b,t,true,0,151)
  else if mayB (wrap64 (a + 1)) (if c.1 = 0 then b else wrap64 (b + 1)) (wrap64 (t + c.1)) d = true then (wrap64 (a + 1),(if c.1 = 0 then b else wrap64 (b + 1)),wrap64 (t + c.1),d,c.1,0)
  else (0,0,0,false,0,150)
theorem turn_eq (p : Pl) (a b t : Int) (d : Bool) (l : List Int) (c : Int × Int) (k : Nat) (hc : resync_Correction.f (k + 2) p.a0 p.a1 p.a2 p.a3 p.a4 p.a5 p.a6 p.a7 p.a8 p.a9 p.a10 p.a11 p.a12 p.a13 p.a14 p.a15 l = some c) : resync_Turn.f (k + 2) p.a0 p.a1 p.a2 p.a3 p.a4 p.a5 p.a6 p.a7 p.a8 p.a9 p.a10 p.a11 p.a12 p.a13 p.a14 p.a15 a b t d l = some (turnC c a b t d):=by
  unfold resync_Turn.f turnC
  rw [hc,Option.bind_some]
  by_cases h : c.2 = 150
  · rw [if_pos h,if_pos (.inl h)]
    simp only [resync_Turn.j0,if_true]
  rw [if_neg h,may_eq,Option.bind_some]
  cases hm : mayB a b t d with
  | false=>rw [if_pos (.inr rfl)];simp only [resync_Turn.j0,Bool.not_false,if_true]
  | true =>
    rw [if_neg (by simp [h])]
    simp only [resync_Turn.j0,Bool.not_true,Bool.false_eq_true,if_false]
    by_cases h1 : c.2 = 151
    · rw [if_pos h1,if_pos (.inl h1)]
      simp only [resync_Turn.j1,if_true]
    rw [if_neg h1]
    cases d with
    | true=>rw [if_pos (.inr rfl)];simp only [resync_Turn.j1,if_true]
    | false =>
      rw [if_neg (by simp [h1])]
      simp only [resync_Turn.j1,Bool.false_eq_true,if_false]
      by_cases h0 : c.1 = 0
      · simp only [h0,if_true]
        rw [may_eq,Option.bind_some]
        split <;> rfl
      · simp only [if_neg h0]
        rw [may_eq,Option.bind_some]
        split <;> rfl
end Go.Proofs.Ytnmephdamgofnaa.Mid
/- The document's conditions of a plan are the program's; the chapter's plan. -/
set_option linter.unusedVariables false
set_option linter.unusedSimpArgs false
namespace Go.Proofs.Ytnmephdamgofnaa.Mid
open Go.RowKit Go.Proofs.Ytnmephdamgofnaa.Hand Go.Proofs.Ytnmephdamgofnaa.PA Go.Proofs.Ytnmephdamgofnaa.PB Go.Proofs.YtnmephdamgofnaaW.PrintWords Go.Proofs.YtnmephdamgofnaaW.PrintMore

/-- The chapter's plan. -/
theorem fit_ok : planOk fitP2:=by
  obtain ⟨r,hr,hx⟩:=fails_total fitP2
  have : some r = some 0:=hr.symm.trans fit_end
  injection this with this
  rcases hx with ⟨_,hy⟩|⟨h1,_⟩
  · exact hy
  · omega
theorem some_eq : vesperslaw15_some.f = some (4,1,512,248,96,1,1,3,100000,88,64,10416,2,1,4,81920):=by
  unfold vesperslaw15_some.f plan_Fit.f
  rw [if_pos (by decide)]
  rfl
theorem mid_at (l : List Int) (lo hi : Int) (h0 : 3 ≤ l.length) (h1 : 1 < cle lo l) (h2 : cle (lo - 1) l ≤ 1) (h3 : l.length - 1 - 1 < cle hi l) (h4 : cle (hi - 1) l ≤ l.length - 1 - 1) : midP fitP2 l = (lo + hi) / 2:=by
  have e1 : fitP2.a1.toNat = 1:=rfl
  unfold midP
  rw [e1,srt_eq l 1 lo (by omega) h1 h2,srt_eq l (l.length - 1 - 1) hi (by omega) h3 h4]
theorem corr_at (l : List Int) (v : Int × Int) (hl : l.length ≤ 1000000) (hf : fineB l = true) (hv : corrP fitP2 l = v) (k : Nat) (hk : l.length + 10 < k) : resync_Correction.f k 4 1 512 248 96 1 1 3 100000 88 64 10416 2 1 4 81920 l = some v:=by
  rw [← hv]
  exact corr_ok fitP2 fit_ok l hl hf k hk
theorem corr_mid (l : List Int) (m : Int) (v : Int × Int) (h0 : 3 ≤ l.length) (hm : midP fitP2 l = m) (hv : (if m > 64 ∨ -m > 64 then ((0 : Int),(151 : Int)) else (-m,0)) = v) : corrP fitP2 l = v:=by
  unfold corrP
  rw [if_pos (by show 2 * (1 : Int) + 1 ≤ _;omega),hm]
  exact hv
theorem corr_few (l : List Int) (h0 : l.length < 3) : corrP fitP2 l = (0,0):=by
  unfold corrP
  rw [if_neg (by show ¬ 2 * (1 : Int) + 1 ≤ _;omega)]
theorem corrected_ok (l : List Int) (v : Int) (hl : l.length ≤ 1000000) (hf : fineB l = true) (hv : corrP fitP2 l = (v,0)) (k : Nat) (hk : l.length + 10 < k) : vesperslaw15_corrected.f k l = some v:=by
  unfold vesperslaw15_corrected.f
  rw [some_eq,Option.bind_some]
  simp only []
  rw [corr_at l _ hl hf hv k hk]
  rfl
theorem corrected_err (l : List Int) (hl : l.length ≤ 1000000) (hf : fineB l = true) (hv : corrP fitP2 l = (0,151)) (k : Nat) (hk : l.length + 10 < k) : vesperslaw15_corrected.f k l = some 151000:=by
  unfold vesperslaw15_corrected.f
  rw [some_eq,Option.bind_some]
  simp only []
  rw [corr_at l _ hl hf hv k hk,Option.bind_some,if_neg (by decide)]
  rw [show wrap64 (1000 * ((0 : Int),(151 : Int)).snd) = 151000 by decide +kernel]
theorem turn_at (a b t : Int) (d : Bool) (l : List Int) (c : Int × Int) (v : Int × Int × Int × Bool × Int × Int) (hl : l.length ≤ 1000000) (hf : fineB l = true) (hc : corrP fitP2 l = c) (hv : turnC c a b t d = v) (k : Nat) (hk : l.length + 10 < k) : resync_Turn.f k 4 1 512 248 96 1 1 3 100000 88 64 10416 2 1 4 81920 a b t d l = some v:=by
  obtain ⟨k,rfl⟩ : ∃ j,k = j + 2:=⟨k - 2,by omega⟩
  rw [← hv]
  exact turn_eq fitP2 a b t d l c k (corr_at l c hl hf hc (k + 2) hk)
theorem alive_eq (k : Nat) (hk : 100 ≤ k) : vesperslaw15_alive.f k = some true:=by
  unfold vesperslaw15_alive.f
  rw [some_eq,Option.bind_some]
  simp only []
  rw [turn_at 0 0 0 false [0,10,20,400] (-15,0) (1,1,-15,false,-15,0) (by decide) (by decide) (corr_mid _ 15 _ (by decide) (mid_at _ 10 20 (by decide) (by decide) (by decide) (by decide) (by decide)) (by decide)) (by decide +kernel) k (by simp;omega),Option.bind_some,
    corrected_ok [0,10,20,400] (-15) (by decide) (by decide) (corr_mid _ 15 _ (by decide) (mid_at _ 10 20 (by decide) (by decide) (by decide) (by decide) (by decide)) (by decide)) k (by simp;omega),Option.bind_some,if_pos rfl,
    corrected_ok [0,-3] 0 (by decide) (by decide) (corr_few _ (by decide)) k (by simp;omega),Option.bind_some,if_pos rfl,
    corrected_err [0,65,66,67] (by decide) (by decide) (corr_mid _ 65 _ (by decide) (mid_at _ 65 66 (by decide) (by decide) (by decide) (by decide) (by decide)) (by decide)) k (by simp;omega),Option.bind_some,if_pos rfl]
  rfl
end Go.Proofs.Ytnmephdamgofnaa.Mid
/- The plain law of ResyncTogether: each clock, set, is the same number, but for the reading error. -/
set_option linter.unusedVariables false
set_option linter.unusedSimpArgs false
set_option linter.unusedSectionVars false
namespace Go.Proofs.Ytnmephdamgofnaa.Mid
open Go.RowKit Go.Proofs.Ytnmephdamgofnaa.Hand Go.Proofs.Ytnmephdamgofnaa.PA Go.Proofs.Ytnmephdamgofnaa.PB Go.Proofs.Ytnmephdamgofnaa.PT Go.Proofs.YtnmephdamgofnaaW.PrintWords Go.Proofs.YtnmephdamgofnaaW.PrintMore

theorem tmod_in (x d : Int) (hd : 0 ≤ d) : -d ≤ Int.tmod x (d + 1)∧Int.tmod x (d + 1) ≤ d:=by
  rcases Int.le_total 0 x with h|h
  · rw [Int.tmod_eq_emod_of_nonneg h]
    have h1:=Int.emod_nonneg x (b:=d + 1) (by omega)
    have h2:=Int.emod_lt_of_pos x (b:=d + 1) (by omega)
    generalize x % (d + 1) = r at h1 h2 ⊢
    omega
  · have e : Int.tmod x (d + 1) = -((-x) % (d + 1)):=by
      rw [show x = -(-x) by omega,Int.neg_tmod,Int.tmod_eq_emod_of_nonneg (by omega)]
      simp
    rw [e]
    clear e
    have h1:=Int.emod_nonneg (-x) (b:=d + 1) (by omega)
    have h2:=Int.emod_lt_of_pos (-x) (b:=d + 1) (by omega)
    generalize (-x) % (d + 1) = r at h1 h2 ⊢
    omega
/-- The reading error. -/
def offV (C E : List Int) (d : Int) (i k : Nat) : Int:=if k = i then 0 else if i * C.length + k < E.length then Int.tmod (rd E ((i * C.length + k : Nat) : Int)) (d + 1) else 0
theorem offV_in (C E : List Int) (d : Int) (hd : 0 ≤ d) (i k : Nat) : -d ≤ offV C E d i k∧offV C E d i k ≤ d:=by
  unfold offV
  split
  · omega
  · split
    · exact tmod_in _ d hd
    · omega
def rowTo (C E : List Int) (d : Int) (i m : Nat) : List Int:=(List.range m).map fun (k : Nat)=>rd C (i : Int) - rd C (k : Int) + offV C E d i k
theorem rowTo_len (C E : List Int) (d : Int) (i m : Nat) : (rowTo C E d i m).length = m:=by simp [rowTo]
theorem rowTo_succ (C E : List Int) (d : Int) (i m : Nat) : rowTo C E d i (m + 1) = rowTo C E d i m++[rd C (i : Int) - rd C (m : Int) + offV C E d i m]:=by simp [rowTo,List.range_succ]
def negV (C : List Int) : List Int:=(List.range C.length).map fun (k : Nat)=>-(rd C (k : Int))
/-- Clocks that may be. -/
structure Clk (C : List Int) (lo hi : Int) : Prop where
  lo_ : -1073741824 ≤ lo
  hi_ : hi ≤ 1073741824
  all : ∀ k : Nat,k < C.length→lo ≤ rd C (k : Int)∧rd C (k : Int) ≤ hi
theorem row_fine {C E : List Int} {d lo hi : Int} (h : Clk C lo hi) (hd : 0 ≤ d∧d ≤ 1048576) (i : Nat) (hi' : i < C.length) : ∀ x ∈ rowTo C E d i C.length,-4294967296 ≤ x∧x ≤ 4294967296:=by
  intro x hx
  obtain ⟨k,hk,rfl⟩:=List.mem_map.1 hx
  have h1:=h.all i hi'
  have h2:=h.all k (by simpa using hk)
  have h3:=offV_in C E d hd.1 i k
  have:=h.lo_
  have:=h.hi_
  show -4294967296 ≤ rd C (i : Int) - rd C (k : Int) + offV C E d i k∧_
  omega
theorem row_moved {C E : List Int} {d : Int} (hd : 0 ≤ d) (i j : Nat) (hj : j < C.length) : srt (rowTo C E d i C.length) j ≤ srt (negV C) j + (rd C (i : Int) + d)∧srt (negV C) j ≤ srt (rowTo C E d i C.length) j + (d - rd C (i : Int)):=by
  have h1:=srt_moved ((List.range C.length).map fun (k : Nat)=>(-(rd C (k : Int)),rd C (i : Int) - rd C (k : Int) + offV C E d i k)) (rd C (i : Int) + d) (fun p hp=>by
    obtain ⟨k,_,rfl⟩:=List.mem_map.1 hp
    have:=offV_in C E d hd i k
    show rd C (i : Int) - rd C (k : Int) + offV C E d i k ≤ -(rd C (k : Int)) + (rd C (i : Int) + d)
    omega) j (by simpa using hj)
  have h2:=srt_moved ((List.range C.length).map fun (k : Nat)=>(rd C (i : Int) - rd C (k : Int) + offV C E d i k,-(rd C (k : Int)))) (d - rd C (i : Int)) (fun p hp=>by
    obtain ⟨k,_,rfl⟩:=List.mem_map.1 hp
    have:=offV_in C E d hd i k
    show -(rd C (k : Int)) ≤ rd C (i : Int) - rd C (k : Int) + offV C E d i k + (d - rd C (i : Int))
    omega) j (by simpa using hj)
  rw [List.map_map,List.map_map] at h1 h2
  exact ⟨h1,h2⟩
theorem neg_in {C : List Int} {lo hi : Int} (h : Clk C lo hi) (j : Nat) (hj : j < C.length) : -hi ≤ srt (negV C) j∧srt (negV C) j ≤ -lo:=by
  have hm:=srt_mem (negV C) j (by simpa [negV] using hj)
  obtain ⟨k,hk,e⟩:=List.mem_map.1 hm
  have:=h.all k (by simpa using hk)
  rw [← e]
  omega
/-- What clock i is set to, if it may be. -/
def setV (p : Pl) (C E : List Int) (d : Int) (i : Nat) : Int:=rd C (i : Int) + -midP p (rowTo C E d i C.length)
theorem set_in {p : Pl} (hp : planOk p) {C E : List Int} {d lo hi : Int} (h : Clk C lo hi) (hd : 0 ≤ d) (hn : 2 * p.a1 + 1 ≤ (C.length : Int)) (i : Nat) :
    ∃ M : Int,-hi ≤ M∧M ≤ -lo∧∀ i,-M - d ≤ setV p C E d i∧setV p C E d i ≤ -M + d:=by
  have hk:=ok_k p hp
  have hj1 : p.a1.toNat < C.length:=by omega
  have hj2 : C.length - 1 - p.a1.toNat < C.length:=by omega
  refine ⟨(srt (negV C) p.a1.toNat + srt (negV C) (C.length - 1 - p.a1.toNat)) / 2,?_,?_,fun i=>?_⟩
  · have:=neg_in h _ hj1;have:=neg_in h _ hj2;omega
  · have:=neg_in h _ hj1;have:=neg_in h _ hj2;omega
  · have a:=row_moved (C:=C) (E:=E) hd i _ hj1
    have b:=row_moved (C:=C) (E:=E) hd i _ hj2
    unfold setV midP
    rw [rowTo_len]
    omega
def setL (p : Pl) (C E : List Int) (d : Int) (m : Nat) : List Int:=(List.range m).map (setV p C E d)
theorem setL_len (p : Pl) (C E : List Int) (d : Int) (m : Nat) : (setL p C E d m).length = m:=by simp [setL]
theorem setL_rd (p : Pl) (C E : List Int) (d : Int) (m j : Nat) (h : j < m) : rd (setL p C E d m) (j : Int) = setV p C E d j:=by
  unfold rd setL
  rw [Int.toNat_natCast,List.getD_eq_getElem?_getD,List.getElem?_map,List.getElem?_range h]
  rfl
theorem at_eq (i n m : Nat) (hi : i < n) (hm : m < n) (h : n ≤ 16) : wrap64 (wrap64 ((i : Int) * (n : Int)) + (m : Int)) = ((i * n + m : Nat) : Int):=by
  have hp : i * n ≤ 16 * 16:=Nat.mul_le_mul (by omega) h
  have e : (i : Int) * (n : Int) = ((i * n : Nat) : Int):=(Int.natCast_mul i n).symm
  rw [e]
  generalize i * n = q at hp ⊢
  rw [wrap_id (x:=(q : Int)) (by omega) (by omega),wrap_id (by omega) (by omega)]
  omega
section
variable (p : Pl) (hp : planOk p) (C E : List Int) (d lo hi : Int) (hC : Clk C lo hi) (hd : 0 ≤ d∧d ≤ 1048576) (hn : 2 * p.a1 + 1 ≤ (C.length : Int)) (h16 : C.length ≤ 16)
include hp hC hd hn h16
theorem tog_l4 (j : Nat) (hj : j < C.length) : ∀ (e m k : Nat),j - m = e→m ≤ j→e + 1 ≤ k →
    (∀ k',e + 40 ≤ k' + 0→True)→∀ (rest : Option Bool),(∀ k',k' + e + 1 = k→vesperslaw15_ResyncTogether.l3 k' d true lo hi (setL p C E d C.length) (C.length : Int) (wrap64 ((j : Int) + 1)) = rest) →
    vesperslaw15_ResyncTogether.l4 k d true lo hi (setL p C E d C.length) (j : Int) (C.length : Int) (j : Int) (j : Int) (m : Int) = rest:=by
  obtain ⟨M,hM1,hM2,hM⟩:=set_in (E:=E) hp hC hd.1 hn 0
  intro e
  induction e with
  | zero =>
    intro m k he hm hk _ rest hr
    obtain ⟨k,rfl⟩ : ∃ q,k = q + 1:=⟨k - 1,by omega⟩
    simp only [vesperslaw15_ResyncTogether.l4]
    rw [if_neg (by omega)]
    exact hr k (by omega)
  | succ e ih =>
    intro m k he hm hk _ rest hr
    obtain ⟨k,rfl⟩ : ∃ q,k = q + 1:=⟨k - 1,by omega⟩
    have h1:=hM j
    have h2:=hM m
    have:=hC.lo_
    have:=hC.hi_
    simp only [vesperslaw15_ResyncTogether.l4]
    rw [setL_rd p C E d _ j hj,setL_rd p C E d _ m (by omega),setL_len]
    rw [if_pos (by omega),if_pos (by omega),if_pos (by omega),if_pos (by omega),if_pos (by omega),wrap_id (x:=2 * d) (by omega) (by omega),wrap_id (x:=setV p C E d j - setV p C E d m) (by omega) (by omega),if_neg (by omega),
      wrap_id (x:=setV p C E d m - setV p C E d j) (by omega) (by omega),if_neg (by omega),wrap_id (x:=(m : Int) + 1) (by omega) (by omega),show (m : Int) + 1 = ((m + 1 : Nat) : Int) by omega]
    exact ih (m + 1) k (by omega) (by omega) (by omega) (fun _ _=>trivial) rest (fun k' hk'=>hr k' (by omega))
theorem tog_l3 : ∀ (e j k : Nat),C.length - j = e→j ≤ C.length→e * 30 + 5 ≤ k→vesperslaw15_ResyncTogether.l3 k d true lo hi (setL p C E d C.length) (C.length : Int) (j : Int) = some true:=by
  obtain ⟨M,hM1,hM2,hM⟩:=set_in (E:=E) hp hC hd.1 hn 0
  intro e
  induction e with
  | zero =>
    intro j k he hj hk
    obtain ⟨k,rfl⟩ : ∃ q,k = q + 1:=⟨k - 1,by omega⟩
    simp only [vesperslaw15_ResyncTogether.l3]
    rw [if_neg (by omega)]
  | succ e ih =>
    intro j k he hj hk
    obtain ⟨k,rfl⟩ : ∃ q,k = q + 2:=⟨k - 2,by omega⟩
    have h1:=hM j
    have:=hC.lo_
    have:=hC.hi_
    have hjl : j < C.length:=by omega
    have hlh:=hC.all j hjl
    simp only [vesperslaw15_ResyncTogether.l3]
    rw [setL_rd p C E d _ j hjl,setL_len]
    rw [if_pos (by omega),if_pos (by omega),if_pos (by omega),wrap_id (x:=lo - d) (by omega) (by omega),if_neg (by omega),wrap_id (x:=hi + d) (by omega) (by omega),decide_eq_false (by omega)]
    simp only [vesperslaw15_ResyncTogether.j5,Bool.false_eq_true,if_false]
    refine tog_l4 p hp C E d lo hi hC hd hn h16 j hjl j 0 k (by omega) (by omega) (by omega) (fun _ _=>trivial) (some true) (fun k' hk'=>?_)
    rw [wrap_id (x:=(j : Int) + 1) (by omega) (by omega),show (j : Int) + 1 = ((j + 1 : Nat) : Int) by omega]
    exact ih (j + 1) k' (by omega) (by omega) (by omega)
theorem tog_l2 (hE : E.length ≤ 140737488351232) (S : List Int) (hS : S.length ≤ 16) (i : Nat) (hi' : i < C.length) : ∀ (e m k : Nat),C.length - m = e→m ≤ C.length→e + 1 ≤ k→∀ (rest : Option Bool),
    (∀ k',k' + e + 1 = k→∃ c : Int × Int,resync_Correction.f k' p.a0 p.a1 p.a2 p.a3 p.a4 p.a5 p.a6 p.a7 p.a8 p.a9 p.a10 p.a11 p.a12 p.a13 p.a14 p.a15 (rowTo C E d i C.length) = some c∧((c.2 = 151∧rest = some true) ∨ (c.2 = 0∧vesperslaw15_ResyncTogether.l1 k' C E d true (C.length : Int) lo hi (S++[wrap64 ((rd C (i : Int)) + c.1)]) (C.length : Int) (wrap64 ((i : Int) + 1)) p.a0 p.a1 p.a2 p.a3 p.a4 p.a5 p.a6 p.a7 p.a8 p.a9 p.a10 p.a11 p.a12 p.a13 p.a14 p.a15 = rest))) →
    vesperslaw15_ResyncTogether.l2 k C E d true (C.length : Int) lo hi S (i : Int) (rowTo C E d i m) (C.length : Int) (i : Int) (C.length : Int) (m : Int) p.a0 p.a1 p.a2 p.a3 p.a4 p.a5 p.a6 p.a7 p.a8 p.a9 p.a10 p.a11 p.a12 p.a13 p.a14 p.a15 = rest:=by
  have:=hC.lo_
  have:=hC.hi_
  have hci:=hC.all i hi'
  intro e
  induction e with
  | zero =>
    intro m k he hm hk rest hr
    obtain ⟨k,rfl⟩ : ∃ q,k = q + 1:=⟨k - 1,by omega⟩
    obtain rfl : m = C.length:=by omega
    simp only [vesperslaw15_ResyncTogether.l2]
    rw [if_neg (by omega)]
    obtain ⟨c,hc,h⟩:=hr k (by omega)
    rw [hc,Option.bind_some]
    rcases h with ⟨h,h'⟩|⟨h,h'⟩
    · rw [if_pos h];exact h'.symm
    · rw [if_neg (by omega),if_pos h,if_pos (by omega),if_pos (by omega),if_pos (by omega)];exact h'
  | succ e ih =>
    intro m k he hm hk rest hr
    obtain ⟨k,rfl⟩ : ∃ q,k = q + 1:=⟨k - 1,by omega⟩
    have hml : m < C.length:=by omega
    have hcm:=hC.all m hml
    have ho:=offV_in C E d hd.1 i m
    have hstep:=ih (m + 1) k (by omega) (by omega) (by omega) rest (fun k' hk'=>hr k' (by omega))
    rw [rowTo_succ,show ((m + 1 : Nat) : Int) = (m : Int) + 1 by omega] at hstep
    have hwm : wrap64 ((m : Int) + 1) = (m : Int) + 1:=wrap_id (by omega) (by omega)
    have hw1 : wrap64 (rd C (i : Int) - rd C (m : Int)) = rd C (i : Int) - rd C (m : Int):=wrap_id (by omega) (by omega)
    have hat:=at_eq i C.length m hi' hml h16
    simp only [vesperslaw15_ResyncTogether.l2]
    rw [rowTo_len,hwm,hw1,hw1,hat]
    clear hwm hw1 hat ih hr
    by_cases hmi : m = i
    · subst hmi
      clear ho
      have h0 : offV C E d m m = 0:=by simp [offV]
      rw [h0,Int.add_zero] at hstep
      clear h0
      rw [if_pos (by omega),if_pos rfl,if_pos (by omega),if_pos (by omega),if_pos (by omega),if_pos (by omega),if_pos (by omega)]
      exact hstep
    · rw [if_pos (by clear ho hstep;omega),if_neg (by clear ho hstep;omega)]
      by_cases hlt : i * C.length + m < E.length
      · have h0 : offV C E d i m = Int.tmod (rd E ((i * C.length + m : Nat) : Int)) (d + 1):=by unfold offV;rw [if_neg hmi,if_pos hlt]
        rw [h0] at ho hstep
        clear h0
        have hw2 : wrap64 (d + 1) = d + 1:=by clear ho hstep;exact wrap_id (by omega) (by omega)
        rw [hw2]
        clear hw2
        generalize Int.tmod (rd E ((i * C.length + m : Nat) : Int)) (d + 1) = tt at ho hstep ⊢
        rw [if_pos (by omega),if_pos (by omega),if_neg (by omega),if_pos (by omega),if_pos (by omega),if_pos (by omega),if_pos (by omega),if_pos (by omega),
          wrap_id (x:=rd C (i : Int) - rd C (m : Int) + tt) (by omega) (by omega)]
        exact hstep
      · have h0 : offV C E d i m = 0:=by unfold offV;rw [if_neg hmi,if_neg hlt]
        rw [h0,Int.add_zero] at hstep
        clear h0 ho
        rw [if_neg (by omega),if_pos (by omega),if_pos (by omega),if_pos (by omega),if_pos (by omega),if_pos (by omega)]
        exact hstep
theorem tog_l1 (hE : E.length ≤ 140737488351232) : ∀ (e i k : Nat),C.length - i = e→i ≤ C.length→e * 40 + 600 ≤ k→vesperslaw15_ResyncTogether.l1 k C E d true (C.length : Int) lo hi (setL p C E d i) (C.length : Int) (i : Int) p.a0 p.a1 p.a2 p.a3 p.a4 p.a5 p.a6 p.a7 p.a8 p.a9 p.a10 p.a11 p.a12 p.a13 p.a14 p.a15 = some true:=by
  have hk1:=ok_k p hp
  have hcap:=ok_cap p hp
  have:=hC.lo_
  have:=hC.hi_
  intro e
  induction e with
  | zero =>
    intro i k he hii hk
    obtain ⟨k,rfl⟩ : ∃ q,k = q + 1:=⟨k - 1,by omega⟩
    obtain rfl : i = C.length:=by omega
    simp only [vesperslaw15_ResyncTogether.l1]
    rw [if_neg (by omega),setL_len]
    exact tog_l3 p hp C E d lo hi hC hd hn h16 C.length 0 k (by omega) (by omega) (by omega)
  | succ e ih =>
    intro i k he hii hk
    obtain ⟨k,rfl⟩ : ∃ q,k = q + 1:=⟨k - 1,by omega⟩
    have hil : i < C.length:=by omega
    have hci:=hC.all i hil
    simp only [vesperslaw15_ResyncTogether.l1]
    rw [if_pos (by omega)]
    refine tog_l2 p hp C E d lo hi hC hd hn h16 hE (setL p C E d i) (by rw [setL_len];omega) i hil C.length 0 k (by omega) (by omega) (by omega) (some true) (fun k' hk'=>?_)
    have hf:=(fine_iff _).2 (row_fine (E:=E) hC hd i hil)
    refine ⟨_,corr_ok p hp (rowTo C E d i C.length) (by rw [rowTo_len];omega) hf k' (by rw [rowTo_len];omega),?_⟩
    have hmid:=midP_in p hp (rowTo C E d i C.length) (by rw [rowTo_len];omega) hf (by rw [rowTo_len];exact hn)
    unfold corrP
    rw [if_pos (show 2 * p.a1 + 1 ≤ ((rowTo C E d i C.length).length : Int) by rw [rowTo_len];exact hn)]
    by_cases hb : midP p (rowTo C E d i C.length) > p.a10 ∨ -midP p (rowTo C E d i C.length) > p.a10
    · rw [if_pos hb];exact .inl ⟨rfl,rfl⟩
    · rw [if_neg hb]
      refine .inr ⟨rfl,?_⟩
      show vesperslaw15_ResyncTogether.l1 k' C E d true (C.length : Int) lo hi (setL p C E d i++[wrap64 ((rd C (i : Int)) + -midP p (rowTo C E d i C.length))]) (C.length : Int) (wrap64 ((i : Int) + 1)) p.a0 p.a1 p.a2 p.a3 p.a4 p.a5 p.a6 p.a7 p.a8 p.a9 p.a10 p.a11 p.a12 p.a13 p.a14 p.a15 = some true
      rw [wrap_id (x:=rd C (i : Int) + -midP p (rowTo C E d i C.length)) (by omega) (by omega),wrap_id (x:=(i : Int) + 1) (by omega) (by omega),show (i : Int) + 1 = ((i + 1 : Nat) : Int) by omega]
      have:=ih (i + 1) k' (by omega) (by omega) (by omega)
      have hs : setL p C E d (i + 1) = setL p C E d i++[rd C (i : Int) + -midP p (rowTo C E d i C.length)]:=by
        unfold setL
        rw [List.range_succ,List.map_append]
        rfl
      rw [hs] at this
      exact this
end
theorem tog_l0 (p : Pl) (hp : planOk p) (C E : List Int) (d : Int) (hd : 0 ≤ d∧d ≤ 1048576) (hn : 2 * p.a1 + 1 ≤ (C.length : Int)) (h16 : C.length ≤ 16) (hE : E.length ≤ 140737488351232) : ∀ (e i k : Nat) (lo hi : Int),C.length - i = e→i ≤ C.length→e + 2000 ≤ k →
    (∀ j : Nat,j < i→-1073741824 ≤ rd C (j : Int)∧rd C (j : Int) ≤ 1073741824∧lo ≤ rd C (j : Int)∧rd C (j : Int) ≤ hi)→(∃ j : Nat,j < C.length∧lo = rd C (j : Int))→(∃ j : Nat,j < C.length∧hi = rd C (j : Int)) →
    vesperslaw15_ResyncTogether.l0 k C E d true (C.length : Int) lo hi C (C.length : Int) (i : Int) p.a0 p.a1 p.a2 p.a3 p.a4 p.a5 p.a6 p.a7 p.a8 p.a9 p.a10 p.a11 p.a12 p.a13 p.a14 p.a15 = some true:=by
  intro e
  induction e with
  | zero =>
    intro i k lo hi he hi' hk hall hlo hhi
    obtain ⟨k,rfl⟩ : ∃ q,k = q + 1:=⟨k - 1,by omega⟩
    obtain rfl : i = C.length:=by omega
    simp only [vesperslaw15_ResyncTogether.l0]
    rw [if_neg (by omega)]
    have hC : Clk C lo hi:=by
      obtain ⟨a,ha,ea⟩:=hlo
      obtain ⟨b,hb,eb⟩:=hhi
      have h1:=hall a ha
      have h2:=hall b hb
      exact ⟨by omega,by omega,fun k hk=>⟨(hall k hk).2.2.1,(hall k hk).2.2.2⟩⟩
    exact tog_l1 p hp C E d lo hi hC hd hn h16 hE C.length 0 k (by omega) (by omega) (by omega)
  | succ e ih =>
    intro i k lo hi he hi' hk hall hlo hhi
    obtain ⟨k,rfl⟩ : ∃ q,k = q + 1:=⟨k - 1,by omega⟩
    have hil : i < C.length:=by omega
    simp only [vesperslaw15_ResyncTogether.l0]
    rw [if_pos (by omega),if_pos (by omega),if_pos (by omega)]
    by_cases c1 : rd C (i : Int) < -1073741824
    · rw [if_pos c1]
    rw [if_neg c1]
    by_cases c2 : rd C (i : Int) > 1073741824
    · rw [if_pos c2]
    rw [if_neg c2,wrap_id (x:=(i : Int) + 1) (by omega) (by omega),show (i : Int) + 1 = ((i + 1 : Nat) : Int) by omega]
    refine ih (i + 1) k _ _ (by omega) (by omega) (by omega) (fun j hj=>?_) ?_ ?_
    · have hmn : mn lo (rd C (i : Int)) ≤ lo∧mn lo (rd C (i : Int)) ≤ rd C (i : Int):=by unfold mn;split <;> omega
      have hmx : hi ≤ mx hi (rd C (i : Int))∧rd C (i : Int) ≤ mx hi (rd C (i : Int)):=by unfold mx;split <;> omega
      by_cases e1 : j = i
      · subst e1;omega
      · have:=hall j (by omega)
        omega
    · unfold mn
      split
      · exact ⟨i,hil,rfl⟩
      · exact hlo
    · unfold mx
      split
      · exact ⟨i,hil,rfl⟩
      · exact hhi
end Go.Proofs.Ytnmephdamgofnaa.Mid
namespace Go.Proofs.Ytnmephdamgofnaa.Pure
open Go.RowKit Go.Proofs.Ytnmephdamgofnaa.Hand Go.Proofs.Ytnmephdamgofnaa.PA Go.Proofs.Ytnmephdamgofnaa.PB Go.Proofs.Ytnmephdamgofnaa.PT Go.Proofs.Ytnmephdamgofnaa.Mid Go.Proofs.YtnmephdamgofnaaW.PrintWords
theorem ResyncTogether : vesperslaw15_ResyncTogether.Pure:=by
  intro a0_0 a0_1 a0_2 a0_3 a0_4 a0_5 a0_6 a0_7 a0_8 a0_9 a0_10 a0_11 a0_12 a0_13 a0_14 a0_15 l1 l2 a3 w0 w1 w2 w3 w4 w5 w6 w7 w8 w9 w10 w11 w12 w13 w14 w15 hm1 hy1 hw1 hm2 hy2 hw2 hw3
  refine ⟨4000,?_⟩
  have hd0:=wfi64 hw3
  generalize hp0 : (⟨a0_0,a0_1,a0_2,a0_3,a0_4,a0_5,a0_6,a0_7,a0_8,a0_9,a0_10,a0_11,a0_12,a0_13,a0_14,a0_15⟩ : Pl) = p
  have main : vesperslaw15_ResyncTogether.f 4000 p.a0 p.a1 p.a2 p.a3 p.a4 p.a5 p.a6 p.a7 p.a8 p.a9 p.a10 p.a11 p.a12 p.a13 p.a14 p.a15 l1 l2 a3 = some true:=by
    unfold vesperslaw15_ResyncTogether.f
    rw [alive_eq 4000 (by omega),Option.bind_some]
    by_cases hp : planOk p
    · rw [check_ok p hp,Option.bind_some,if_pos rfl]
      have hk:=ok_k p hp
      rw [wrap_id (x:=2 * p.a1) (by omega) (by omega),wrap_id (x:=2 * p.a1 + 1) (by omega) (by omega)]
      by_cases c1 : (l1.length : Int) < 2 * p.a1 + 1
      · rw [if_pos c1];rfl
      rw [if_neg c1]
      by_cases c2 : (l1.length : Int) > 16
      · rw [if_pos c2];rfl
      rw [if_neg c2]
      by_cases c3 : a3 < 0
      · rw [if_pos c3];rfl
      rw [if_neg c3]
      by_cases c4 : a3 > 1048576
      · rw [if_pos c4];rfl
      rw [if_neg c4]
      simp only [vesperslaw15_ResyncTogether.j0,Bool.not_true,Bool.false_eq_true,if_false]
      rw [if_pos (by omega)]
      exact tog_l0 p hp l1 l2 a3 (by omega) (by omega) (by omega) (by omega) l1.length 0 _ _ _ (by omega) (by omega) (by omega) (fun j hj=>absurd hj (by omega)) ⟨0,by omega,rfl⟩ ⟨0,by omega,rfl⟩
    · rw [check_no p hp,Option.bind_some,if_neg (by decide)]
      simp only [vesperslaw15_ResyncTogether.j0,if_true]
  rw [← hp0] at main
  exact main
end Go.Proofs.Ytnmephdamgofnaa.Pure
/- Written by a program of this session (wip/jprint.py, over the printer of the kit): functions that a law comes to, as plain Lean functions, and walks; Lean checks it. -/
namespace Go.Proofs.Ytnmephdamgofnaa.resyncTogether
open Go.ChangeShapes Go.WideShapes Go.ChangeAt Go.RowKit Go.Joins Go.Deep Go.Proofs.YtnmephdamgofnaaW.PrintWords
open Go.ChangeMaps (open_string shut_string)
set_option linter.unusedVariables false
theorem own : ownKnob Try.prog.godebug = none:=by kernel_rfl
theorem laidOut : laidOutB Try.prog = true:=by kernel_rfl
def IsRow (k : IntKind) (w : World) (a : Option Addr) (len cap : Nat) (zs : List Int) : Prop :=
  (a = none∧len = 0∧cap = 0∧zs = []) ∨
  ∃ x,a = some x∧len ≤ cap∧cap ≤ maxLen∧zs.length = cap∧(∀ i,i < zs.length→w.cell? (x.add i) = some (.int k (zs.getD i 0)))∧∀ n ∈ zs,(Lit.int k n).wf = true
section
variable {H : Type} {enc : TypeId × Value→H} {P : Program} {w : World} {base : Nat} {spare : Nat→Bool} {held : Bool}
set_option maxRecDepth 100000 in
set_option maxHeartbeats 4000000 in
theorem open_agg16 {r : Reach} {b0 : Nat} {t : TypeId} {f0 f1 f2 f3 f4 f5 f6 f7 f8 f9 f10 f11 f12 f13 f14 f15 : Field} {v : Value} {d : DataW H} {p : List MemPlace} (hs : P.underlying t = some (.struct #[f0,f1,f2,f3,f4,f5,f6,f7,f8,f9,f10,f11,f12,f13,f14,f15])) (hone : oneCellFields P #[f0,f1,f2,f3,f4,f5,f6,f7,f8,f9,f10,f11,f12,f13,f14,f15] = true) (hC : P.cellsOf t = 16)
    (hv : Value.okWide P w r b0 t v) (h : DataW.Trod enc P w base spare held t v d p) :
    ∃ (v0 v1 v2 v3 v4 v5 v6 v7 v8 v9 v10 v11 v12 v13 v14 v15 : Value) (y0 y1 y2 y3 y4 y5 y6 y7 y8 y9 y10 y11 y12 y13 y14 y15 : DataW H × List MemPlace) (n : Nat),v = .agg #[v0,v1,v2,v3,v4,v5,v6,v7,v8,v9,v10,v11,v12,v13,v14,v15]∧d = .agg [y0.1,y1.1,y2.1,y3.1,y4.1,y5.1,y6.1,y7.1,y8.1,y9.1,y10.1,y11.1,y12.1,y13.1,y14.1,y15.1]∧p = y0.2++(y1.2++(y2.2++(y3.2++(y4.2++(y5.2++(y6.2++(y7.2++(y8.2++(y9.2++(y10.2++(y11.2++(y12.2++(y13.2++(y14.2++(y15.2))))))))))))))) ∧
      DataW.trod enc P w base spare held n f0.type [v0] = some y0∧DataW.trod enc P w base spare held n f1.type [v1] = some y1∧DataW.trod enc P w base spare held n f2.type [v2] = some y2∧DataW.trod enc P w base spare held n f3.type [v3] = some y3∧DataW.trod enc P w base spare held n f4.type [v4] = some y4∧DataW.trod enc P w base spare held n f5.type [v5] = some y5∧DataW.trod enc P w base spare held n f6.type [v6] = some y6∧DataW.trod enc P w base spare held n f7.type [v7] = some y7∧DataW.trod enc P w base spare held n f8.type [v8] = some y8∧DataW.trod enc P w base spare held n f9.type [v9] = some y9∧DataW.trod enc P w base spare held n f10.type [v10] = some y10∧DataW.trod enc P w base spare held n f11.type [v11] = some y11∧DataW.trod enc P w base spare held n f12.type [v12] = some y12∧DataW.trod enc P w base spare held n f13.type [v13] = some y13∧DataW.trod enc P w base spare held n f14.type [v14] = some y14∧DataW.trod enc P w base spare held n f15.type [v15] = some y15:=by
  obtain ⟨cs,rfl,hsz⟩:=okWide_struct hs hv
  obtain ⟨l⟩:=cs
  match l,hsz.trans hC with
  | [c0,c1,c2,c3,c4,c5,c6,c7,c8,c9,c10,c11,c12,c13,c14,c15],_ =>
    obtain ⟨fuel,hf⟩:=h
    obtain ⟨xs,n,_,hx,_,hlen,hg⟩:=DataW.trod_struct hs hf
    obtain ⟨o0,k0⟩:=hone_of hone 0 f0 rfl
    obtain ⟨o1,k1⟩:=hone_of hone 1 f1 rfl
    obtain ⟨o2,k2⟩:=hone_of hone 2 f2 rfl
    obtain ⟨o3,k3⟩:=hone_of hone 3 f3 rfl
    obtain ⟨o4,k4⟩:=hone_of hone 4 f4 rfl
    obtain ⟨o5,k5⟩:=hone_of hone 5 f5 rfl
    obtain ⟨o6,k6⟩:=hone_of hone 6 f6 rfl
    obtain ⟨o7,k7⟩:=hone_of hone 7 f7 rfl
    obtain ⟨o8,k8⟩:=hone_of hone 8 f8 rfl
    obtain ⟨o9,k9⟩:=hone_of hone 9 f9 rfl
    obtain ⟨o10,k10⟩:=hone_of hone 10 f10 rfl
    obtain ⟨o11,k11⟩:=hone_of hone 11 f11 rfl
    obtain ⟨o12,k12⟩:=hone_of hone 12 f12 rfl
    obtain ⟨o13,k13⟩:=hone_of hone 13 f13 rfl
    obtain ⟨o14,k14⟩:=hone_of hone 14 f14 rfl
    obtain ⟨o15,k15⟩:=hone_of hone 15 f15 rfl
    match xs,hlen with
    | [y0,y1,y2,y3,y4,y5,y6,y7,y8,y9,y10,y11,y12,y13,y14,y15],_ =>
      simp only [Prod.mk.injEq] at hx
      exact ⟨c0,c1,c2,c3,c4,c5,c6,c7,c8,c9,c10,c11,c12,c13,c14,c15,y0,y1,y2,y3,y4,y5,y6,y7,y8,y9,y10,y11,y12,y13,y14,y15,n,rfl,by simpa using hx.1,by simpa using hx.2,by simpa [Value.cells,o0,k0] using hg 0 f0 rfl,by simpa [Value.cells,o1,k1] using hg 1 f1 rfl,by simpa [Value.cells,o2,k2] using hg 2 f2 rfl,by simpa [Value.cells,o3,k3] using hg 3 f3 rfl,by simpa [Value.cells,o4,k4] using hg 4 f4 rfl,by simpa [Value.cells,o5,k5] using hg 5 f5 rfl,by simpa [Value.cells,o6,k6] using hg 6 f6 rfl,by simpa [Value.cells,o7,k7] using hg 7 f7 rfl,by simpa [Value.cells,o8,k8] using hg 8 f8 rfl,by simpa [Value.cells,o9,k9] using hg 9 f9 rfl,by simpa [Value.cells,o10,k10] using hg 10 f10 rfl,by simpa [Value.cells,o11,k11] using hg 11 f11 rfl,by simpa [Value.cells,o12,k12] using hg 12 f12 rfl,by simpa [Value.cells,o13,k13] using hg 13 f13 rfl,by simpa [Value.cells,o14,k14] using hg 14 f14 rfl,by simpa [Value.cells,o15,k15] using hg 15 f15 rfl⟩
end
set_option maxRecDepth 100000 in
set_option maxHeartbeats 1000000 in
theorem lifted (os : Os) (started : os.Started) (H : Type) (enc : TypeId × Value→H) :
    ReturnsInHanded {} Try.checked os 4 .any (Rows.resyncTogetherSpec.pre6 enc Try.prog Try.f4 Rows.resyncTogetherRow.domain false) (Rows.resyncTogetherSpec.post enc Try.prog Try.f4 false true false false):=by
  refine returnsInHanded_of_change_sized (C:=Try.checked) own started (by kernel_rfl) Try.func4
    (ChangeSpec.witness6 (enc:=enc) (C:=Try.checked) false ⟨#[],#[.agg #[.int .i64 0,.int .i64 0,.int .i64 0,.int .i64 0,.int .i64 0,.int .i64 0,.int .i64 0,.int .i64 0,.int .i64 0,.int .i64 0,.int .i64 0,.int .i64 0,.int .i64 0,.int .i64 0,.int .i64 0,.int .i64 0],.slice none 0 0,.slice none 0 0,.int .i64 0],[]⟩ 8 (by kernel_rfl) (by kernel_rfl) (by kernel_rfl) (by kernel_rfl)) ?_
  intro W base args ds gs before hval0 hW hcnd hsz0 _
  have hsz : (DataW.weightsEach Try.prog (Try.f4.params.toList++Rows.resyncTogetherSpec.plain.varTypes Try.prog) (ds++gs)).all (· ≤ reachBytes) = true:=hsz0
  have hval : ∀ (j : Nat) t v,Try.f4.params[j]? = some t→args[j]? = some v→Value.okWide Try.prog W .any base t v:=hval0
  have hW':=hW
  obtain ⟨p,q,hA0,hV,rfl,hfz,hnd⟩:=hW
  have hA : DataW.TrodAll enc Try.prog W 0 (fun _=>true) true Try.f4.params.toList args.toList ds p:=hA0
  rw [Try.params4] at hA hval hsz
  obtain ⟨v0,vs0,d0,ds0,p0,q0,hargs,rfl,rfl,h0,r0⟩:=trodAll_cons hA
  obtain ⟨v1,vs1,d1,ds1,p1,q1,rfl,rfl,rfl,h1,r1⟩:=trodAll_cons r0
  obtain ⟨v2,vs2,d2,ds2,p2,q2,rfl,rfl,rfl,h2,r2⟩:=trodAll_cons r1
  obtain ⟨v3,vs3,d3,ds3,p3,q3,rfl,rfl,rfl,h3,r3⟩:=trodAll_cons r2
  obtain ⟨rfl,rfl,rfl⟩:=trodAll_nil r3
  obtain rfl : args = #[v0,v1,v2,v3]:=by cases args;simp_all
  obtain ⟨rfl,rfl⟩:=trodVars_none hV
  have k0:=h0
  have lt0 : ∀ x ∈ p0,x.block < W.heap.size:=by obtain ⟨m,hm⟩:=k0;exact DataW.trod_lt m _ _ _ hm
  obtain ⟨c0_0,c0_1,c0_2,c0_3,c0_4,c0_5,c0_6,c0_7,c0_8,c0_9,c0_10,c0_11,c0_12,c0_13,c0_14,c0_15,y0_0,y0_1,y0_2,y0_3,y0_4,y0_5,y0_6,y0_7,y0_8,y0_9,y0_10,y0_11,y0_12,y0_13,y0_14,y0_15,m0,rfl,rfl,rfl,hy0_0,hy0_1,hy0_2,hy0_3,hy0_4,hy0_5,hy0_6,hy0_7,hy0_8,hy0_9,hy0_10,hy0_11,hy0_12,hy0_13,hy0_14,hy0_15⟩:=open_agg16 Try.underlying23 (by kernel_rfl) (by kernel_rfl) (hval 0 23 v0 rfl rfl) h0
  obtain ⟨a0_0,e0_0,rfl,w0_0⟩:=DataW.trod_int Try.underlying3 hy0_0
  obtain rfl : c0_0 = .int .i64 a0_0:=by simpa using e0_0
  obtain ⟨a0_1,e0_1,rfl,w0_1⟩:=DataW.trod_int Try.underlying3 hy0_1
  obtain rfl : c0_1 = .int .i64 a0_1:=by simpa using e0_1
  obtain ⟨a0_2,e0_2,rfl,w0_2⟩:=DataW.trod_int Try.underlying2 hy0_2
  obtain rfl : c0_2 = .int .i64 a0_2:=by simpa using e0_2
  obtain ⟨a0_3,e0_3,rfl,w0_3⟩:=DataW.trod_int Try.underlying2 hy0_3
  obtain rfl : c0_3 = .int .i64 a0_3:=by simpa using e0_3
  obtain ⟨a0_4,e0_4,rfl,w0_4⟩:=DataW.trod_int Try.underlying2 hy0_4
  obtain rfl : c0_4 = .int .i64 a0_4:=by simpa using e0_4
  obtain ⟨a0_5,e0_5,rfl,w0_5⟩:=DataW.trod_int Try.underlying2 hy0_5
  obtain rfl : c0_5 = .int .i64 a0_5:=by simpa using e0_5
  obtain ⟨a0_6,e0_6,rfl,w0_6⟩:=DataW.trod_int Try.underlying2 hy0_6
  obtain rfl : c0_6 = .int .i64 a0_6:=by simpa using e0_6
  obtain ⟨a0_7,e0_7,rfl,w0_7⟩:=DataW.trod_int Try.underlying2 hy0_7
  obtain rfl : c0_7 = .int .i64 a0_7:=by simpa using e0_7
  obtain ⟨a0_8,e0_8,rfl,w0_8⟩:=DataW.trod_int Try.underlying2 hy0_8
  obtain rfl : c0_8 = .int .i64 a0_8:=by simpa using e0_8
  obtain ⟨a0_9,e0_9,rfl,w0_9⟩:=DataW.trod_int Try.underlying2 hy0_9
  obtain rfl : c0_9 = .int .i64 a0_9:=by simpa using e0_9
  obtain ⟨a0_10,e0_10,rfl,w0_10⟩:=DataW.trod_int Try.underlying2 hy0_10
  obtain rfl : c0_10 = .int .i64 a0_10:=by simpa using e0_10
  obtain ⟨a0_11,e0_11,rfl,w0_11⟩:=DataW.trod_int Try.underlying2 hy0_11
  obtain rfl : c0_11 = .int .i64 a0_11:=by simpa using e0_11
  obtain ⟨a0_12,e0_12,rfl,w0_12⟩:=DataW.trod_int Try.underlying3 hy0_12
  obtain rfl : c0_12 = .int .i64 a0_12:=by simpa using e0_12
  obtain ⟨a0_13,e0_13,rfl,w0_13⟩:=DataW.trod_int Try.underlying3 hy0_13
  obtain rfl : c0_13 = .int .i64 a0_13:=by simpa using e0_13
  obtain ⟨a0_14,e0_14,rfl,w0_14⟩:=DataW.trod_int Try.underlying3 hy0_14
  obtain rfl : c0_14 = .int .i64 a0_14:=by simpa using e0_14
  obtain ⟨a0_15,e0_15,rfl,w0_15⟩:=DataW.trod_int Try.underlying2 hy0_15
  obtain rfl : c0_15 = .int .i64 a0_15:=by simpa using e0_15
  have k1:=h1
  have lt1 : ∀ x ∈ p1,x.block < W.heap.size:=by obtain ⟨m,hm⟩:=k1;exact DataW.trod_lt m _ _ _ hm
  obtain ⟨a1,len1,cap1,rfl⟩:=okWide_slice Try.underlying26 (hval 1 26 v1 rfl rfl)
  obtain ⟨z1,w1⟩ : ∃ zs,IsRow .i64 W a1 len1 cap1 zs:=by
    obtain ⟨fuel,hf⟩:=h1
    rcases open_ints Try.underlying26 Try.underlying2 (by kernel_rfl) hf with ⟨hcs,_⟩|⟨x,l,c,zs,hcs,_,hl,hm,hz,_,hcell,hwz⟩
    · simp [Value.cells] at hcs
      obtain ⟨rfl,rfl,rfl⟩:=hcs
      exact ⟨[],.inl ⟨rfl,rfl,rfl,rfl⟩⟩
    · simp [Value.cells] at hcs
      obtain ⟨rfl,rfl,rfl⟩:=hcs
      exact ⟨zs,.inr ⟨_,rfl,hl,hm,by simpa using hz,hcell,hwz⟩⟩
  have y1 : len1 * 8 ≤ 140737488351232:=sized_ints hsz (j:=1) (t:=26) rfl rfl Try.underlying26 Try.underlying2 (by kernel_rfl) (by kernel_rfl) h1
  obtain ⟨l1,rfl,hr1,hm1,hw1,hc1⟩:=ReadsInt.ofRowC w1
  have k2:=h2
  have lt2 : ∀ x ∈ p2,x.block < W.heap.size:=by obtain ⟨m,hm⟩:=k2;exact DataW.trod_lt m _ _ _ hm
  obtain ⟨a2,len2,cap2,rfl⟩:=okWide_slice Try.underlying26 (hval 2 26 v2 rfl rfl)
  obtain ⟨z2,w2⟩ : ∃ zs,IsRow .i64 W a2 len2 cap2 zs:=by
    obtain ⟨fuel,hf⟩:=h2
    rcases open_ints Try.underlying26 Try.underlying2 (by kernel_rfl) hf with ⟨hcs,_⟩|⟨x,l,c,zs,hcs,_,hl,hm,hz,_,hcell,hwz⟩
    · simp [Value.cells] at hcs
      obtain ⟨rfl,rfl,rfl⟩:=hcs
      exact ⟨[],.inl ⟨rfl,rfl,rfl,rfl⟩⟩
    · simp [Value.cells] at hcs
      obtain ⟨rfl,rfl,rfl⟩:=hcs
      exact ⟨zs,.inr ⟨_,rfl,hl,hm,by simpa using hz,hcell,hwz⟩⟩
  have y2 : len2 * 8 ≤ 140737488351232:=sized_ints hsz (j:=2) (t:=26) rfl rfl Try.underlying26 Try.underlying2 (by kernel_rfl) (by kernel_rfl) h2
  obtain ⟨l2,rfl,hr2,hm2,hw2,hc2⟩:=ReadsInt.ofRowC w2
  obtain ⟨a3,rfl,rfl,rfl,w3⟩:=open_int Try.underlying2 (hval 3 2 v3 rfl rfl) h3
  clear hA0 hval0 hsz0 hsz
  obtain ⟨k,hp⟩:=Pure.ResyncTogether a0_0 a0_1 a0_2 a0_3 a0_4 a0_5 a0_6 a0_7 a0_8 a0_9 a0_10 a0_11 a0_12 a0_13 a0_14 a0_15 l1 l2 a3 w0_0 w0_1 w0_2 w0_3 w0_4 w0_5 w0_6 w0_7 w0_8 w0_9 w0_10 w0_11 w0_12 w0_13 w0_14 w0_15 hm1 y1 hw1 hm2 y2 hw2 w3
  refine (PT.vesperslaw15_ResyncTogether.calls k a0_0 a0_1 a0_2 a0_3 a0_4 a0_5 a0_6 a0_7 a0_8 a0_9 a0_10 a0_11 a0_12 a0_13 a0_14 a0_15 _ _ l1 _ _ l2 a3 true W (Kd.C_of_reads (d:=(0 : Int)) (h1:=fun _=>rfl) hr1) hc1 (Kd.C_of_reads (d:=(0 : Int)) (h1:=fun _=>rfl) hr2) hc2 hp).mono ?_
  rintro e W' ⟨rfl,bel⟩
  exact ⟨_,rfl,_,_,_,[],_,[],hW',trodAll_mk1 (shut_bool Try.underlying4 _),(trodAll_cons_mk (Below.trod laidOut (by kernel_rfl) (of_decide_eq_true (by kernel_rfl)) k0 bel lt0) (trodAll_cons_mk (Below.trod laidOut (by kernel_rfl) (of_decide_eq_true (by kernel_rfl)) k1 bel lt1) (trodAll_cons_mk (Below.trod laidOut (by kernel_rfl) (of_decide_eq_true (by kernel_rfl)) k2 bel lt2) (trodAll_cons_mk (shut_int Try.underlying2 w3) trodAll_mk0)))),rfl,bel.frame _,fun h=>by cases h⟩
theorem over : Rows.resyncTogetherRow.holds Try.pinned (OpenSpec.ofChange Rows.resyncTogetherSpec) :=
  OpenClaim.holds_of_wide 4 Try.f4 rfl rfl rfl rfl rfl rfl rfl ⟨rfl,rfl,rfl,rfl,rfl⟩ rfl rfl rfl rfl rfl (by kernel_rfl) Try.func4 (by kernel_rfl)
    (of_decide_eq_true (by kernel_rfl)) (by unfold Func.isWrapper;first|(rw [if_pos (by decide +kernel)];kernel_rfl)|(rw [if_neg (by decide +kernel)];exact ⟨rfl,rfl⟩))
    (fun os started H enc _=>lifted os started H enc)
theorem proved : Rows.ResyncTogetherSaid:=over
#print axioms proved
end Go.Proofs.Ytnmephdamgofnaa.resyncTogether
namespace Go.Proofs.Ytnmephdamgofnaa
/-- The row, under a short name, for the claim. -/
theorem resyncTogether_holds : Rows.ResyncTogetherSaid:=resyncTogether.proved
end Go.Proofs.Ytnmephdamgofnaa
