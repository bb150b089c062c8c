import Derived.Test.YtnmephdamgofnaaWWords
import Derived.Deep.Matrix
import Derived.WideShapes
import Derived.Test.YtnmephdamgofnaaHandTrim
import Derived.Test.YtnmephdamgofnaaPBx2
import Derived.Test.YtnmephdamgofnaaPBx3
import Derived.Test.YtnmephdamgofnaaPAx9
import Derived.Test.YtnmephdamgofnaaPAx8
import Derived.Test.YtnmephdamgofnaaPAx10
import Derived.Test.YtnmephdamgofnaaHandFold0
import Derived.Test.YtnmephdamgofnaaPRx5
import Derived.Test.YtnmephdamgofnaaRows
import Derived.WalkKit
import Derived.ProofKit
import Derived.OpenShut
import Derived.ShutString
import Derived.ChangeOld
import Derived.Below
import Derived.SizedLaws
import Derived.Lib.SmallJoins
import Derived.Test.YtnmephdamgofnaaWSized
/- A slice of slices of whole numbers that came in, as a list of lists. -/
set_option linter.unusedVariables false
namespace Go.Proofs.Ytnmephdamgofnaa.Hand
open Go.RowKit Go.Proofs.YtnmephdamgofnaaW.PrintWords
/-- The rows read as lists. -/
theorem rows_C {k : IntKind} {e : Nat} {W : World} (x : Addr) (len : Nat) (A : Nat→Option Addr) (L C : Nat→Nat) (Z : Nat→List Int) (hlen : len ≤ maxLen)
    (h : ∀ r,r < len→W.cell? (x.add r) = some (.slice (A r) (L r) (C r))∧L r ≤ C r∧C r ≤ maxLen∧(Z r).length = C r∧(∀ n ∈ Z r,(Lit.int k n).wf = true)∧(A r = none→C r = 0)∧∀ a',A r = some a'→∀ c,c < C r→W.cell? (a'.add c) = some (.int k ((Z r).getD c 0))) :
    ∃ l2 : List (List Int),l2.length = len∧Kd.C (Kd.slice e (Kd.int k)) W (some x) len l2:=by
  refine ⟨(List.range len).map fun r=>(Z r).take (L r),by simp,by simp,by unfold maxLen at hlen;omega,fun _=>⟨x,rfl,fun j p hj=>?_⟩⟩
  rw [List.getElem?_map] at hj
  obtain ⟨r,hr,rfl⟩:=Option.map_eq_some_iff.1 hj
  obtain ⟨hr1,hr2⟩:=List.getElem?_eq_some_iff.1 hr
  have hrj : r = j:=by simpa using hr2.symm
  have hlt : j < len:=by simpa using hr1
  subst hrj
  obtain ⟨h1,h2,h3,h4,h5,h6,h7⟩:=h r hlt
  have hl : ((Z r).take (L r)).length = L r:=by rw [List.length_take];omega
  refine ⟨[.slice (A r) ((Z r).take (L r)).length (C r)],rfl,⟨A r,C r,rfl,by omega,?_⟩,?_⟩
  · have hR : ReadsInt W k (A r) ((Z r).take (L r)).length ((Z r).take (L r)):=by
      refine ⟨rfl,by unfold maxLen at h3;omega,fun hp=>?_⟩
      rcases hA : A r with _|a'
      · have:=h6 hA;omega
      · refine ⟨a',rfl,fun c hc=>?_⟩
        rw [h7 a' hA c (by omega)]
        congr 2
        rw [List.getD_eq_getElem?_getD,List.getD_eq_getElem?_getD,List.getElem?_take_of_lt (by omega)]
    exact Kd.C_of_reads (d:=(0 : Int)) (h1:=fun _=>rfl) hR
  · intro i u hu
    cases i with
    | zero =>
      simp at hu
      subst hu
      rw [show r * (Kd.slice e (Kd.int k)).sz + 0 = r from Nat.mul_one r,h1]
      congr 2
      omega
    | succ i=>simp at hu
end Go.Proofs.Ytnmephdamgofnaa.Hand
/- The k-th of some numbers, by how many are at most a number; trimmed values. -/
set_option linter.unusedVariables false
set_option linter.unusedSimpArgs false
namespace Go.Proofs.Ytnmephdamgofnaa.Mid
open Go.RowKit Go.Proofs.Ytnmephdamgofnaa.Hand Go.Proofs.YtnmephdamgofnaaW.PrintWords

def cle (v : Int) (l : List Int) : Nat:=l.countP fun x=>decide (x ≤ v)
def srt (l : List Int) (i : Nat) : Int:=(sortL l).getD i 0
theorem sortL_perm (l : List Int) : (sortL l).Perm l:=List.mergeSort_perm _ _
theorem sortL_sorted (l : List Int) : (sortL l).Pairwise (fun x y=>x ≤ y):=by
  have:=List.pairwise_mergeSort (le:=fun x y : Int=>decide (x ≤ y)) (by intro a b c;simp;omega) (by intro a b;simp;omega) l
  refine this.imp ?_
  intro a b h
  simpa using h
theorem srt_get (l : List Int) (i : Nat) (h : i < (sortL l).length) : (sortL l)[i] = srt l i:=by
  unfold srt
  rw [List.getD_eq_getElem?_getD,List.getElem?_eq_getElem h,Option.getD_some]
theorem cle_sorted : ∀ (s : List Int),s.Pairwise (fun x y=>x ≤ y)→∀ (i : Nat) (h : i < s.length) (v : Int),s[i] ≤ v ↔ i < cle v s
  | [],_,i,h,_=>absurd h (Nat.not_lt_zero _)
  | x::t,hs,i,h,v=>by
    rw [List.pairwise_cons] at hs
    have ih:=cle_sorted t hs.2
    by_cases hx : x ≤ v
    · have e : cle v (x::t) = cle v t + 1:=by unfold cle;rw [List.countP_cons_of_pos (by simpa using hx)]
      rw [e]
      cases i with
      | zero=>simp [hx]
      | succ i=>rw [List.getElem_cons_succ,ih i (by simpa using h) v];omega
    · have e : cle v (x::t) = 0:=by
        unfold cle
        rw [List.countP_eq_zero]
        intro a ha
        rcases List.mem_cons.1 ha with rfl|ha
        · simpa using hx
        · have:=hs.1 a ha
          simp;omega
      rw [e]
      cases i with
      | zero=>simp;omega
      | succ i =>
        have:=hs.1 _ (List.getElem_mem (l:=t) (n:=i) (by simpa using h))
        simp;omega
theorem cle_sort (l : List Int) (v : Int) : cle v (sortL l) = cle v l:=(sortL_perm l).countP_eq _
/-- THE ONE LAW: the i-th is at most v just if more than i are. -/
theorem srt_le (l : List Int) (i : Nat) (h : i < l.length) (v : Int) : srt l i ≤ v ↔ i < cle v l:=by
  have h' : i < (sortL l).length:=by rw [sortL_len];exact h
  rw [← cle_sort l v,← srt_get l i h']
  exact cle_sorted _ (sortL_sorted l) i h' v
theorem srt_eq (l : List Int) (i : Nat) (v : Int) (h : i < l.length) (h1 : i < cle v l) (h2 : cle (v - 1) l ≤ i) : srt l i = v:=by
  have a:=(srt_le l i h v).2 h1
  have b:=srt_le l i h (v - 1)
  have : ¬ srt l i ≤ v - 1:=fun c=>by have:=b.1 c;omega
  omega
theorem srt_mono (l : List Int) (i j : Nat) (hij : i ≤ j) (h : j < l.length) : srt l i ≤ srt l j:=by
  have a:=(srt_le l j h (srt l j)).1 (Int.le_refl _)
  exact (srt_le l i (by omega) _).2 (by omega)
theorem srt_mem (l : List Int) (i : Nat) (h : i < l.length) : srt l i ∈ l:=by
  have h' : i < (sortL l).length:=by rw [sortL_len];exact h
  rw [← srt_get l i h']
  exact (sortL_perm l).mem_iff.1 (List.getElem_mem h')
theorem cle_le_len (l : List Int) (v : Int) : cle v l ≤ l.length:=List.countP_le_length
theorem cle_ge (l : List Int) (v : Int) : (l.countP fun x=>decide (v ≤ x)) + cle (v - 1) l = l.length:=by
  unfold cle
  induction l with
  | nil=>rfl
  | cons x t ih =>
    by_cases hx : v ≤ x
    · rw [List.countP_cons_of_pos (by simpa using hx),List.countP_cons_of_neg (by simp;omega)];simp;omega
    · rw [List.countP_cons_of_neg (by simpa using hx),List.countP_cons_of_pos (by simp;omega)];simp;omega
theorem srt_ext (a b : List Int) (hl : a.length = b.length) (h : ∀ v,cle v a = cle v b) (i : Nat) (hi : i < a.length) : srt a i = srt b i:=by
  have h1:=(srt_le a i hi (srt b i)).2 (by rw [h];exact (srt_le b i (by omega) _).1 (Int.le_refl _))
  have h2:=(srt_le b i (by omega) (srt a i)).2 (by rw [← h];exact (srt_le a i hi _).1 (Int.le_refl _))
  omega
theorem cle_perm {a b : List Int} (h : a.Perm b) (v : Int) : cle v a = cle v b:=h.countP_eq _
/-- Each is moved by at most d. -/
theorem srt_moved (ps : List (Int × Int)) (d : Int) (h : ∀ p ∈ ps,p.2 ≤ p.1 + d) (i : Nat) (hi : i < ps.length) : srt (ps.map Prod.snd) i ≤ srt (ps.map Prod.fst) i + d:=by
  rw [srt_le _ i (by simpa using hi)]
  have h1:=(srt_le (ps.map Prod.fst) i (by simpa using hi) _).1 (Int.le_refl _)
  refine Nat.lt_of_lt_of_le h1 ?_
  unfold cle
  rw [List.countP_map,List.countP_map]
  refine List.countP_mono_left ?_
  intro p hp hq
  have:=h p hp
  simp only [Function.comp,decide_eq_true_eq] at hq ⊢
  omega
theorem sortL_mem {l : List Int} {x : Int} : x ∈ sortL l ↔ x ∈ l:=(sortL_perm l).mem_iff

/-- Values that may be trimmed. -/
structure GoodM (l : List Int) (n : Nat) : Prop where
  room : 2 * n + 1 ≤ l.length
  big : l.length ≤ 1000000
  fine : ∀ x ∈ l,-4294967296 ≤ x∧x ≤ 4294967296
theorem GoodM.any {l : List Int} {n : Nat} (h : GoodM l n) : l.any wildB = false:=by
  rw [List.any_eq_false]
  intro x hx
  have:=h.fine x hx
  simp [wildB]
  omega
theorem Trim_good {l : List Int} {n : Nat} (h : GoodM l n) : midpoint_Trim.f l (n : Int) = some (trimL l (n : Int),0):=by
  have:=h.room
  unfold midpoint_Trim.f
  rw [if_neg (by omega),if_neg (by intro e;rw [e] at this;simp at this),if_neg (by omega),if_pos h.big,h.any]
  simp
theorem Trim_bad {l : List Int} {a : Int} (hb : l.length ≤ 1000000) (h : ∀ n : Nat,a = (n : Int)→¬ GoodM l n) : midpoint_Trim.f l a = some ([],140):=by
  unfold midpoint_Trim.f
  by_cases h1 : a < 0
  · rw [if_pos h1]
  rw [if_neg h1]
  by_cases h2 : l = []
  · rw [if_pos h2]
  rw [if_neg h2]
  by_cases h3 : ((l.length : Int) - 1) / 2 < a
  · rw [if_pos h3]
  rw [if_neg h3,if_pos hb]
  by_cases h4 : l.any wildB = true
  · rw [if_pos h4]
  exfalso
  have hpos : 1 ≤ l.length:=by cases l with|nil=>exact absurd rfl h2|cons _ _=>simp
  refine h a.toNat (by omega) ⟨by omega,hb,fun x hx=>?_⟩
  have:=List.any_eq_false.1 (by simpa using h4) x hx
  simp [wildB] at this
  omega
theorem trimL_eq (l : List Int) (n : Nat) : trimL l (n : Int) = (List.range (l.length - 2 * n)).map fun j=>srt l (n + j):=by
  unfold trimL
  rw [Int.toNat_natCast]
  apply List.ext_getElem
  · simp [sortL_len];omega
  · intro j h1 h2
    have h3 : j < l.length - 2 * n:=by simpa using h2
    simp only [List.getElem_take,List.getElem_drop,List.getElem_map,List.getElem_range]
    exact srt_get l (n + j) _
theorem trimL_len (l : List Int) (n : Nat) : (trimL l (n : Int)).length = l.length - 2 * n:=by rw [trimL_eq];simp
theorem trimL_rd (l : List Int) (n j : Nat) (h : j < l.length - 2 * n) : rd (trimL l (n : Int)) (j : Int) = srt l (n + j):=by
  unfold rd
  rw [trimL_eq,Int.toNat_natCast,List.getD_eq_getElem?_getD,List.getElem?_map,List.getElem?_range h]
  rfl
theorem srt_fine {l : List Int} {n : Nat} (h : GoodM l n) (i : Nat) (hi : i < l.length) : -4294967296 ≤ srt l i∧srt l i ≤ 4294967296:=h.fine _ (srt_mem l i hi)
end Go.Proofs.Ytnmephdamgofnaa.Mid
/- Plain facts: a plan that may be, and what resync's functions answer. -/
set_option linter.unusedVariables false
set_option linter.unusedSimpArgs false
namespace Go.Proofs.Ytnmephdamgofnaa.Mid
open Go.RowKit Go.Proofs.Ytnmephdamgofnaa.Hand Go.Proofs.Ytnmephdamgofnaa.PA Go.Proofs.Ytnmephdamgofnaa.PB Go.Proofs.YtnmephdamgofnaaW.PrintWords Go.Proofs.YtnmephdamgofnaaW.PrintMore

theorem wrap_id {x : Int} (h0 : -9223372036854775808 ≤ x) (h1 : x ≤ 9223372036854775807) : wrap64 x = x:=by
  unfold wrap64
  omega
theorem ends_loop (xs : List Int) (hl : xs.length ≤ 1000000) (m : Int) (hm : ∀ i : Nat,i < xs.length→m ≤ rd xs (i : Int)) (hmono : ∀ i j : Nat,i ≤ j→j < xs.length→rd xs (i : Int) ≤ rd xs (j : Int)) :
    ∀ (d k i : Nat) (x5 : Int),i + d = xs.length→d < k→(∀ j : Nat,i ≤ j→j < xs.length→x5 ≤ rd xs (j : Int))→midpoint_ends_int64.l0 k m x5 xs (xs.length : Int) (i : Int) = some (m,if i = xs.length then x5 else rd xs ((xs.length - 1 : Nat) : Int)):=by
  intro d
  induction d with
  | zero =>
    intro k i x5 hi hk hx
    obtain ⟨k,rfl⟩ : ∃ m,k = m + 1:=⟨k - 1,by omega⟩
    simp only [midpoint_ends_int64.l0]
    rw [if_neg (by omega),if_pos (by omega)]
  | succ d ih =>
    intro k i x5 hi hk hx
    obtain ⟨k,rfl⟩ : ∃ m,k = m + 1:=⟨k - 1,by omega⟩
    simp only [midpoint_ends_int64.l0]
    have e1 : mn m (rd xs (i : Int)) = m:=by unfold mn;rw [if_neg (by have:=hm i (by omega);omega)]
    have e2 : mx x5 (rd xs (i : Int)) = rd xs (i : Int):=by
      unfold mx
      have:=hx i (Nat.le_refl _) (by omega)
      split <;> omega
    rw [if_pos (by omega),if_pos (by omega),if_pos (by omega),e1,e2,wrap_id (by omega) (by omega),show (i : Int) + 1 = ((i + 1 : Nat) : Int) by omega,ih k (i + 1) _ (by omega) (by omega) (fun j h1 h2=>hmono i j (by omega) h2)]
    by_cases he : i + 1 = xs.length
    · rw [if_pos he,if_neg (by omega),show xs.length - 1 = i by omega]
    · rw [if_neg he,if_neg (by omega)]
theorem rd_drop1 (xs : List Int) (j : Nat) : rd (xs.drop 1) (j : Int) = rd xs ((j + 1 : Nat) : Int):=by
  unfold rd
  rw [Int.toNat_natCast,Int.toNat_natCast,List.getD_eq_getElem?_getD,List.getD_eq_getElem?_getD,List.getElem?_drop,Nat.add_comm]
theorem ends_trim {l : List Int} {n : Nat} (h : GoodM l n) (k : Nat) (hk : l.length < k) : midpoint_ends_int64.f k (rd (trimL l (n : Int)) 0) ((trimL l (n : Int)).drop 1) = some (srt l n,srt l (l.length - 1 - n)):=by
  have hr:=h.room
  have hb:=h.big
  have hlen:=trimL_len l n
  have hd : ((trimL l (n : Int)).drop 1).length = l.length - 2 * n - 1:=by rw [List.length_drop,hlen]
  have h0 : rd (trimL l (n : Int)) 0 = srt l n:=by have:=trimL_rd l n 0 (by omega);simpa using this
  have hj : ∀ j : Nat,j < l.length - 2 * n - 1→rd ((trimL l (n : Int)).drop 1) (j : Int) = srt l (n + j + 1):=fun j h1=>by
    rw [rd_drop1,trimL_rd l n (j + 1) (by omega),Nat.add_assoc]
  unfold midpoint_ends_int64.f
  have:=ends_loop ((trimL l (n : Int)).drop 1) (by omega) (srt l n) (fun i hi=>by rw [hj i (by omega)];exact srt_mono l n _ (by omega) (by omega))
    (fun i j h1 h2=>by rw [hj i (by omega),hj j (by omega)];exact srt_mono l _ _ (by omega) (by omega)) ((trimL l (n : Int)).drop 1).length k 0 (srt l n) (by omega) (by omega) (fun j h1 h2=>by rw [hj j (by omega)];exact srt_mono l n _ (by omega) (by omega))
  rw [h0]
  rw [show ((0 : Nat) : Int) = 0 from rfl] at this
  rw [this]
  congr 2
  by_cases he : 0 = ((trimL l (n : Int)).drop 1).length
  · rw [if_pos he,show l.length - 1 - n = n by omega]
  · rw [if_neg he,hj _ (by omega),hd,show n + (l.length - 2 * n - 1 - 1) + 1 = l.length - 1 - n by omega]
theorem Of_good {l : List Int} {n : Nat} (h : GoodM l n) (k : Nat) (hk : l.length < k) : midpoint_Of.f k l (n : Int) = some ((srt l n + srt l (l.length - 1 - n)) / 2,0):=by
  have hr:=h.room
  have f1:=srt_fine h n (by omega)
  have f2:=srt_fine h (l.length - 1 - n) (by omega)
  unfold midpoint_Of.f
  rw [Trim_good h,Option.bind_some]
  simp only [if_true]
  rw [if_pos (by rw [trimL_len];omega),if_pos (by rw [trimL_len];omega),ends_trim h k hk,Option.bind_some,wrap_id (by omega) (by omega)]
theorem Of_bad {l : List Int} {a : Int} (hb : l.length ≤ 1000000) (h : ∀ n : Nat,a = (n : Int)→¬ GoodM l n) (k : Nat) : midpoint_Of.f k l a = some (0,140):=by
  unfold midpoint_Of.f
  rw [Trim_bad hb h,Option.bind_some]
  rfl

theorem wfi64 {a : Int} (h : (Lit.int .i64 a).wf = true) : -9223372036854775808 ≤ a∧a ≤ 9223372036854775807:=by
  have : (decide (IntKind.i64.min ≤ a) && decide (a ≤ IntKind.i64.max)) = true:=h
  rw [show IntKind.i64.min = -9223372036854775808 by decide,show IntKind.i64.max = 9223372036854775807 by decide] at this
  simpa using this
theorem in_eq (a b c : Int) : plan_in.f a b c = some (decide (b ≤ a∧a ≤ c)):=by
  unfold plan_in.f
  by_cases h : b ≤ a
  · rw [if_pos h];congr 1;simp [h]
  · rw [if_neg h];congr 1;simp [h]
/-- A plan that may be: all conditions hold. -/
def planOk (p : Pl) : Prop:=∀ i,1 ≤ i→i ≤ 11→condO p i = some true
theorem g_some (p : Pl) (h : p.a8 ≠ 0) : ∃ v,plan_look_g.f p.a0 p.a1 p.a2 p.a3 p.a4 p.a5 p.a6 p.a7 p.a8 p.a9 p.a10 p.a11 p.a12 p.a13 p.a14 p.a15 = some v:=by
  unfold plan_look_g.f plan_look_round.f
  rw [Option.bind_some,if_neg h]
  exact ⟨_,rfl⟩
theorem a_some (p : Pl) (h : p.a8 ≠ 0) : ∃ v,plan_look_a.f p.a0 p.a1 p.a2 p.a3 p.a4 p.a5 p.a6 p.a7 p.a8 p.a9 p.a10 p.a11 p.a12 p.a13 p.a14 p.a15 = some v:=by
  obtain ⟨v,hv⟩:=g_some p h
  unfold plan_look_a.f plan_look_e.f
  rw [Option.bind_some,hv,Option.bind_some]
  exact ⟨_,rfl⟩
theorem cond_some (p : Pl) (i : Nat) (h1 : 1 ≤ i) (h2 : i ≤ 11) (h8 : 4 ≤ i→p.a8 ≠ 0) (h13 : 10 ≤ i→p.a13 ≠ 0) : ∃ b,condO p i = some b:=by
  match i,h1,h2 with
  | 1,_,_=>show ∃ b,plan_look_nodes.f p.a0 p.a1 p.a2 p.a3 p.a4 p.a5 p.a6 p.a7 p.a8 p.a9 p.a10 p.a11 p.a12 p.a13 p.a14 p.a15 = some b;unfold plan_look_nodes.f;rw [in_eq,Option.bind_some];split;(· rw [in_eq];exact ⟨_,rfl⟩);exact ⟨_,rfl⟩
  | 2,_,_=>show ∃ b,plan_look_air.f p.a0 p.a1 p.a2 p.a3 p.a4 p.a5 p.a6 p.a7 p.a8 p.a9 p.a10 p.a11 p.a12 p.a13 p.a14 p.a15 = some b;unfold plan_look_air.f;rw [in_eq,Option.bind_some];split;(· split;(· rw [in_eq];exact ⟨_,rfl⟩);exact ⟨_,rfl⟩);exact ⟨_,rfl⟩
  | 3,_,_=>show ∃ b,plan_look_slot.f p.a0 p.a1 p.a2 p.a3 p.a4 p.a5 p.a6 p.a7 p.a8 p.a9 p.a10 p.a11 p.a12 p.a13 p.a14 p.a15 = some b;unfold plan_look_slot.f;rw [in_eq,Option.bind_some];split;(· rw [in_eq];exact ⟨_,rfl⟩);exact ⟨_,rfl⟩
  | 4,_,_ =>
    show ∃ b,plan_look_pi.f p.a0 p.a1 p.a2 p.a3 p.a4 p.a5 p.a6 p.a7 p.a8 p.a9 p.a10 p.a11 p.a12 p.a13 p.a14 p.a15 = some b
    obtain ⟨v,hv⟩:=g_some p (h8 (by omega));obtain ⟨u,hu⟩:=a_some p (h8 (by omega))
    unfold plan_look_pi.f plan_look_leastPi.f plan_look_e.f
    rw [hu,Option.bind_some,hv,Option.bind_some,Option.bind_some,Option.bind_some,in_eq]
    exact ⟨_,rfl⟩
  | 5,_,_=>show ∃ b,plan_look_window.f p.a0 p.a1 p.a2 p.a3 p.a4 p.a5 p.a6 p.a7 p.a8 p.a9 p.a10 p.a11 p.a12 p.a13 p.a14 p.a15 = some b;unfold plan_look_window.f plan_look_leastWindow.f plan_look_e.f;rw [Option.bind_some,Option.bind_some,in_eq];exact ⟨_,rfl⟩
  | 6,_,_ =>
    show ∃ b,plan_look_limit.f p.a0 p.a1 p.a2 p.a3 p.a4 p.a5 p.a6 p.a7 p.a8 p.a9 p.a10 p.a11 p.a12 p.a13 p.a14 p.a15 = some b
    obtain ⟨v,hv⟩:=g_some p (h8 (by omega));obtain ⟨u,hu⟩:=a_some p (h8 (by omega))
    unfold plan_look_limit.f plan_look_leastCap.f plan_look_e.f
    rw [hu,Option.bind_some,hv,Option.bind_some,Option.bind_some,Option.bind_some,in_eq]
    exact ⟨_,rfl⟩
  | 7,_,_=>show ∃ b,plan_look_sends.f p.a0 p.a1 p.a2 p.a3 p.a4 p.a5 p.a6 p.a7 p.a8 p.a9 p.a10 p.a11 p.a12 p.a13 p.a14 p.a15 = some b;unfold plan_look_sends.f plan_look_leastOff.f;rw [Option.bind_some,in_eq];exact ⟨_,rfl⟩
  | 8,_,_=>show ∃ b,plan_look_fits.f p.a0 p.a1 p.a2 p.a3 p.a4 p.a5 p.a6 p.a7 p.a8 p.a9 p.a10 p.a11 p.a12 p.a13 p.a14 p.a15 = some b;unfold plan_look_fits.f plan_look_leastSlot.f;exact ⟨_,rfl⟩
  | 9,_,_=>show ∃ b,plan_look_queue.f p.a0 p.a1 p.a2 p.a3 p.a4 p.a5 p.a6 p.a7 p.a8 p.a9 p.a10 p.a11 p.a12 p.a13 p.a14 p.a15 = some b;unfold plan_look_queue.f;rw [in_eq,Option.bind_some];split;(· rw [in_eq,Option.bind_some];split;(· rw [in_eq];exact ⟨_,rfl⟩);exact ⟨_,rfl⟩);exact ⟨_,rfl⟩
  | 10,_,_ =>
    show ∃ b,plan_look_delta.f p.a0 p.a1 p.a2 p.a3 p.a4 p.a5 p.a6 p.a7 p.a8 p.a9 p.a10 p.a11 p.a12 p.a13 p.a14 p.a15 = some b
    unfold plan_look_delta.f plan_look_leastDelta.f plan_look_round.f
    rw [if_neg (h13 (by omega)),Option.bind_some,Option.bind_some,Option.bind_some,in_eq]
    exact ⟨_,rfl⟩
  | 11,_,_=>show ∃ b,plan_look_horizon.f p.a0 p.a1 p.a2 p.a3 p.a4 p.a5 p.a6 p.a7 p.a8 p.a9 p.a10 p.a11 p.a12 p.a13 p.a14 p.a15 = some b;unfold plan_look_horizon.f plan_look_round.f;rw [Option.bind_some,in_eq];exact ⟨_,rfl⟩
theorem slot_rho (p : Pl) (h : condO p 3 = some true) : (1 ≤ p.a2∧p.a2 ≤ 1048576)∧4 ≤ p.a8∧p.a8 ≤ 1048576:=by
  have h : plan_look_slot.f p.a0 p.a1 p.a2 p.a3 p.a4 p.a5 p.a6 p.a7 p.a8 p.a9 p.a10 p.a11 p.a12 p.a13 p.a14 p.a15 = some true:=h
  unfold plan_look_slot.f at h
  rw [in_eq,Option.bind_some] at h
  split at h
  · rename_i h1
    rw [in_eq,Option.bind_some] at h
    have h2:=Option.some.inj h
    simp at h1 h2
    omega
  · cases h
theorem queue_13 (p : Pl) (h : condO p 9 = some true) : 1 ≤ p.a13:=by
  have h : plan_look_queue.f p.a0 p.a1 p.a2 p.a3 p.a4 p.a5 p.a6 p.a7 p.a8 p.a9 p.a10 p.a11 p.a12 p.a13 p.a14 p.a15 = some true:=h
  unfold plan_look_queue.f at h
  rw [in_eq,Option.bind_some] at h
  split at h
  · rw [in_eq,Option.bind_some] at h
    split at h
    · rename_i h1;simp at h1;omega
    · cases h
  · cases h
theorem nodes_k (p : Pl) (h : condO p 1 = some true) : (4 ≤ p.a0∧p.a0 ≤ 16)∧0 ≤ p.a1∧p.a1 ≤ 7∧2 * p.a1 + 2 ≤ p.a0:=by
  have h : plan_look_nodes.f p.a0 p.a1 p.a2 p.a3 p.a4 p.a5 p.a6 p.a7 p.a8 p.a9 p.a10 p.a11 p.a12 p.a13 p.a14 p.a15 = some true:=h
  unfold plan_look_nodes.f at h
  rw [in_eq,Option.bind_some] at h
  split at h
  · rename_i h1
    simp at h1
    rw [in_eq,Option.bind_some] at h
    have h2:=Option.some.inj h
    simp only [decide_eq_true_eq] at h2
    rw [wrap_id (x:=p.a0 - 2) (by omega) (by omega),Int.tdiv_eq_ediv_of_nonneg (by omega),wrap_id (by omega) (by omega)] at h2
    omega
  · cases h
theorem air_d (p : Pl) (h : condO p 2 = some true) : (1 ≤ p.a5∧p.a5 ≤ 1048576)∧0 ≤ p.a6∧p.a6 ≤ p.a7∧p.a7 ≤ 1048576:=by
  have h : plan_look_air.f p.a0 p.a1 p.a2 p.a3 p.a4 p.a5 p.a6 p.a7 p.a8 p.a9 p.a10 p.a11 p.a12 p.a13 p.a14 p.a15 = some true:=h
  unfold plan_look_air.f at h
  rw [in_eq,Option.bind_some] at h
  split at h
  · rename_i h1
    simp at h1
    split at h
    · rename_i h3
      rw [in_eq,Option.bind_some] at h
      have h2:=Option.some.inj h
      simp only [decide_eq_true_eq] at h2
      omega
    · cases h
  · cases h
/-- What the greatest correction is at least. -/
theorem cap_pos (p : Pl) (h1 : condO p 1 = some true) (h2 : condO p 2 = some true) (h3 : condO p 3 = some true) (h6 : condO p 6 = some true) : 0 ≤ p.a10∧p.a10 ≤ 1048576:=by
  have n:=nodes_k p h1
  have a:=air_d p h2
  have s:=slot_rho p h3
  have h : plan_look_limit.f p.a0 p.a1 p.a2 p.a3 p.a4 p.a5 p.a6 p.a7 p.a8 p.a9 p.a10 p.a11 p.a12 p.a13 p.a14 p.a15 = some true:=h6
  have r0 : 0 ≤ p.a0 * p.a2:=Int.mul_nonneg (by omega) (by omega)
  have r1 : p.a0 * p.a2 ≤ 16 * 1048576:=Int.mul_le_mul n.1.2 s.1.2 (by omega) (by omega)
  have q0 : 0 ≤ Int.tdiv (2 * (p.a0 * p.a2)) p.a8:=Int.tdiv_nonneg (by omega) (by omega)
  have q1 : Int.tdiv (2 * (p.a0 * p.a2)) p.a8 ≤ 2 * (p.a0 * p.a2):=by
    rw [Int.tdiv_eq_ediv_of_nonneg (by omega)]
    exact Int.ediv_le_self _ (by omega)
  unfold plan_look_limit.f plan_look_leastCap.f plan_look_a.f plan_look_e.f plan_look_g.f plan_look_round.f at h
  simp only [Option.bind_some] at h
  rw [if_neg (by omega)] at h
  simp only [Option.bind_some] at h
  rw [in_eq,Option.bind_some] at h
  rw [wrap_id (x:=p.a0 * p.a2) (by omega) (by omega),wrap_id (x:=2 * (p.a0 * p.a2)) (by omega) (by omega)] at h
  generalize Int.tdiv (2 * (p.a0 * p.a2)) p.a8 = q at q0 q1 h
  rw [wrap_id (x:=q) (by omega) (by omega),wrap_id (x:=q + 4) (by omega) (by omega),wrap_id (x:=2 * (q + 4)) (by omega) (by omega),wrap_id (x:=p.a7 - p.a6) (by omega) (by omega),wrap_id (x:=p.a7 - p.a6 + 6) (by omega) (by omega),
    wrap_id (x:=p.a7 - p.a6 + 6 + 2 * (q + 4)) (by omega) (by omega),wrap_id (x:=2 * (p.a7 - p.a6 + 6 + 2 * (q + 4))) (by omega) (by omega),wrap_id (x:=2 * (2 * (q + 4))) (by omega) (by omega),wrap_id (x:=2 * (p.a7 - p.a6 + 6)) (by omega) (by omega),
    wrap_id (x:=2 * (p.a7 - p.a6 + 6 + 2 * (q + 4)) + 2 * (2 * (q + 4))) (by omega) (by omega),wrap_id (by omega) (by omega)] at h
  have h2:=Option.some.inj h
  simp only [decide_eq_true_eq] at h2
  omega
theorem failsC_total (c : Nat→Option Bool) : ∀ (k j : Nat),1 ≤ j→(∀ i,j ≤ i→i < j + k→(∀ m,j ≤ m→m < i→c m = some true)→∃ b,c i = some b) →
    ∃ r : Int,failsC c k j = some r∧((r = 0∧∀ i,j ≤ i→i < j + k→c i = some true) ∨ (1 ≤ r∧¬ ∀ i,j ≤ i→i < j + k→c i = some true))
  | 0,j,_,_=>⟨0,rfl,.inl ⟨rfl,fun i h1 h2=>by omega⟩⟩
  | k + 1,j,hj,h=>by
    obtain ⟨b,hb⟩:=h j (Nat.le_refl _) (by omega) (fun m h1 h2=>by omega)
    cases b with
    | false =>
      refine ⟨(j : Int),by unfold failsC;rw [hb];rfl,.inr ⟨by omega,fun q=>?_⟩⟩
      have:=q j (Nat.le_refl _) (by omega)
      rw [hb] at this
      cases this
    | true =>
      obtain ⟨r,hr,hx⟩:=failsC_total c k (j + 1) (by omega) (fun i h1 h2 h3=>h i (by omega) (by omega) (fun m q1 q2=>by
        by_cases e : m = j
        · rw [e];exact hb
        · exact h3 m (by omega) q2))
      refine ⟨r,by unfold failsC;rw [hb];exact hr,?_⟩
      rcases hx with ⟨h0,hx⟩|⟨h0,hx⟩
      · refine .inl ⟨h0,fun i h1 h2=>?_⟩
        by_cases e : i = j
        · rw [e];exact hb
        · exact hx i (by omega) (by omega)
      · exact .inr ⟨h0,fun q=>hx fun i h1 h2=>q i (by omega) (by omega)⟩
theorem fails_total (p : Pl) : ∃ r : Int,plan_Fails.f p.a0 p.a1 p.a2 p.a3 p.a4 p.a5 p.a6 p.a7 p.a8 p.a9 p.a10 p.a11 p.a12 p.a13 p.a14 p.a15 = some r∧((r = 0∧planOk p) ∨ (1 ≤ r∧¬ planOk p)):=by
  obtain ⟨r,hr,hx⟩:=failsC_total (condO p) 11 1 (Nat.le_refl _) (fun i h1 h2 h3=>cond_some p i h1 (by omega) (fun h4=>by have:=slot_rho p (h3 3 (by omega) (by omega));omega) (fun h10=>by have:=queue_13 p (h3 9 (by omega) (by omega));omega))
  refine ⟨r,hr,?_⟩
  rcases hx with ⟨h0,hx⟩|⟨h0,hx⟩
  · exact .inl ⟨h0,fun i h1 h2=>hx i h1 (by omega)⟩
  · exact .inr ⟨h0,fun q=>hx fun i h1 h2=>q i h1 (by omega)⟩
theorem check_ok (p : Pl) (h : planOk p) : plan_Check.f p.a0 p.a1 p.a2 p.a3 p.a4 p.a5 p.a6 p.a7 p.a8 p.a9 p.a10 p.a11 p.a12 p.a13 p.a14 p.a15 = some 0:=by
  obtain ⟨r,hr,hx⟩:=fails_total p
  rcases hx with ⟨h0,_⟩|⟨_,hn⟩
  · unfold plan_Check.f;rw [hr,h0];rfl
  · exact absurd h hn
theorem check_no (p : Pl) (h : ¬ planOk p) : plan_Check.f p.a0 p.a1 p.a2 p.a3 p.a4 p.a5 p.a6 p.a7 p.a8 p.a9 p.a10 p.a11 p.a12 p.a13 p.a14 p.a15 = some 70:=by
  obtain ⟨r,hr,hx⟩:=fails_total p
  rcases hx with ⟨_,hy⟩|⟨h0,_⟩
  · exact absurd hy h
  · unfold plan_Check.f;rw [hr,Option.bind_some,if_neg (by omega)]
theorem ok_k (p : Pl) (h : planOk p) : (4 ≤ p.a0∧p.a0 ≤ 16)∧0 ≤ p.a1∧p.a1 ≤ 7∧2 * p.a1 + 2 ≤ p.a0:=nodes_k p (h 1 (by omega) (by omega))
theorem ok_cap (p : Pl) (h : planOk p) : 0 ≤ p.a10∧p.a10 ≤ 1048576:=cap_pos p (h 1 (by omega) (by omega)) (h 2 (by omega) (by omega)) (h 3 (by omega) (by omega)) (h 6 (by omega) (by omega))
/-- Values that may be. -/
def fineB (l : List Int) : Bool:=l.all fun x=>decide (-4294967296 ≤ x∧x ≤ 4294967296)
theorem fine_iff (l : List Int) : fineB l = true ↔ ∀ x ∈ l,-4294967296 ≤ x∧x ≤ 4294967296:=by
  unfold fineB
  rw [List.all_eq_true]
  simp
theorem values_l0 (l : List Int) (hl : l.length ≤ 1000000) : ∀ (d i k : Nat),l.length - i = d→i ≤ l.length→d < k→resync_values.l0 k l (l.length : Int) (i : Int) = some (fineB (l.drop i)):=by
  intro d
  induction d with
  | zero =>
    intro i k hd hi hk
    obtain ⟨k,rfl⟩ : ∃ j,k = j + 1:=⟨k - 1,by omega⟩
    simp only [resync_values.l0]
    rw [if_neg (by omega),List.drop_of_length_le (by omega)]
    rfl
  | succ d ih =>
    intro i k hd hi hk
    obtain ⟨k,rfl⟩ : ∃ j,k = j + 1:=⟨k - 1,by omega⟩
    have hlt : i < l.length:=by omega
    have hrd : rd l (i : Int) = l[i]:=by simp [rd,hlt]
    have hstep:=ih (i + 1) k (by omega) (by omega) (by omega)
    rw [show ((i + 1 : Nat) : Int) = (i : Int) + 1 by omega] at hstep
    simp only [resync_values.l0]
    rw [if_pos (by omega),if_pos (by omega),if_pos (by omega),hrd,wrap_id (x:=(i : Int) + 1) (by omega) (by omega),hstep,List.drop_eq_getElem_cons hlt]
    have e : fineB (l[i]::l.drop (i + 1)) = (decide (-4294967296 ≤ l[i]∧l[i] ≤ 4294967296) && fineB (l.drop (i + 1))):=rfl
    rw [e]
    by_cases c1 : l[i] < -4294967296
    · rw [if_pos c1,decide_eq_false (by omega)];rfl
    · rw [if_neg c1]
      by_cases c2 : l[i] > 4294967296
      · rw [if_pos c2,decide_eq_false (by omega)];rfl
      · rw [if_neg c2,decide_eq_true (by omega)];rfl
theorem values_eq (l : List Int) (hl : l.length ≤ 1000000) (k : Nat) (hk : l.length < k) : resync_values.f k l = some (fineB l):=by
  unfold resync_values.f
  have:=values_l0 l hl l.length 0 k (by omega) (by omega) hk
  simpa using this
/-- The midpoint, for a plan. -/
def midP (p : Pl) (l : List Int) : Int:=(srt l p.a1.toNat + srt l (l.length - 1 - p.a1.toNat)) / 2
/-- What the correction is. -/
def corrP (p : Pl) (l : List Int) : Int × Int:=if 2 * p.a1 + 1 ≤ (l.length : Int) then (if midP p l > p.a10 ∨ -midP p l > p.a10 then (0,151) else (-midP p l,0)) else (0,0)
theorem good_of (p : Pl) (hp : planOk p) (l : List Int) (hl : l.length ≤ 1000000) (hf : fineB l = true) (h : 2 * p.a1 + 1 ≤ (l.length : Int)) : GoodM l p.a1.toNat:=by
  have:=ok_k p hp
  exact ⟨by omega,hl,(fine_iff l).1 hf⟩
theorem midP_in (p : Pl) (hp : planOk p) (l : List Int) (hl : l.length ≤ 1000000) (hf : fineB l = true) (h : 2 * p.a1 + 1 ≤ (l.length : Int)) : -4294967296 ≤ midP p l∧midP p l ≤ 4294967296:=by
  have hk:=ok_k p hp
  have g:=good_of p hp l hl hf h
  have f1:=srt_fine g p.a1.toNat (by omega)
  have f2:=srt_fine g (l.length - 1 - p.a1.toNat) (by omega)
  unfold midP
  omega
theorem enough_eq (p : Pl) (hp : planOk p) (n : Int) (hn : 0 ≤ n) : resync_Enough.f p.a0 p.a1 p.a2 p.a3 p.a4 p.a5 p.a6 p.a7 p.a8 p.a9 p.a10 p.a11 p.a12 p.a13 p.a14 p.a15 n = some (decide (2 * p.a1 + 1 ≤ n)):=by
  have hk:=ok_k p hp
  unfold resync_Enough.f
  rw [check_ok p hp,Option.bind_some,if_pos rfl,wrap_id (x:=2 * p.a1) (by omega) (by omega),wrap_id (x:=2 * p.a1 + 1) (by omega) (by omega)]
theorem corr_ok (p : Pl) (hp : planOk p) (l : List Int) (hl : l.length ≤ 1000000) (hf : fineB l = true) (k : Nat) (hk : l.length + 10 < k) : resync_Correction.f k p.a0 p.a1 p.a2 p.a3 p.a4 p.a5 p.a6 p.a7 p.a8 p.a9 p.a10 p.a11 p.a12 p.a13 p.a14 p.a15 l = some (corrP p l):=by
  have hkk:=ok_k p hp
  obtain ⟨k,rfl⟩ : ∃ j,k = j + 1:=⟨k - 1,by omega⟩
  unfold resync_Correction.f
  rw [check_ok p hp,Option.bind_some,if_pos rfl,values_eq l hl _ (by omega),hf,Option.bind_some]
  simp only [resync_Correction.j0,Bool.not_true,Bool.false_eq_true,if_false]
  rw [enough_eq p hp _ (by omega),Option.bind_some]
  unfold corrP
  by_cases h : 2 * p.a1 + 1 ≤ (l.length : Int)
  · have g:=good_of p hp l hl hf h
    have hm:=midP_in p hp l hl hf h
    have hO:=Of_good g k (by omega)
    rw [show ((p.a1.toNat : Nat) : Int) = p.a1 by omega] at hO
    rw [decide_eq_true h,if_pos rfl,hO,Option.bind_some,if_pos h]
    simp only [if_true]
    rw [show (srt l p.a1.toNat + srt l (l.length - 1 - p.a1.toNat)) / 2 = midP p l from rfl]
    rw [wrap_id (x:=-midP p l) (by omega) (by omega)]
    by_cases c : midP p l > p.a10 ∨ -midP p l > p.a10
    · rw [if_pos c,if_pos (by unfold mx;split <;> omega)]
    · rw [if_neg c,if_neg (by unfold mx;split <;> omega)]
  · rw [decide_eq_false h,if_neg (by decide),if_neg h]
theorem corr_bad (p : Pl) (l : List Int) (hl : l.length ≤ 1000000) (h : ¬ (planOk p∧fineB l = true)) (k : Nat) (hk : l.length + 10 < k) : resync_Correction.f k p.a0 p.a1 p.a2 p.a3 p.a4 p.a5 p.a6 p.a7 p.a8 p.a9 p.a10 p.a11 p.a12 p.a13 p.a14 p.a15 l = some (0,150):=by
  obtain ⟨k,rfl⟩ : ∃ j,k = j + 1:=⟨k - 1,by omega⟩
  unfold resync_Correction.f
  by_cases hp : planOk p
  · have hf : fineB l = false:=by
      cases hq : fineB l with
      | true=>exact absurd ⟨hp,hq⟩ h
      | false=>rfl
    rw [check_ok p hp,Option.bind_some,if_pos rfl,values_eq l hl _ (by omega),hf,Option.bind_some]
    simp only [resync_Correction.j0,Bool.not_false,if_true]
  · rw [check_no p hp,Option.bind_some,if_neg (by decide)]
    simp only [resync_Correction.j0,if_true]
/-- May what was done be? -/
def mayB (a b c : Int) (d : Bool) : Bool:=decide (0 ≤ a∧a ≤ 2147483647∧0 ≤ b∧b ≤ a∧-4294967296 ≤ c∧c ≤ 4294967296)
theorem may_eq (a b c : Int) (d : Bool) : resync_may.f a b c d = some (mayB a b c d):=by
  unfold resync_may.f mayB
  by_cases h : (a == 0 && (b == 0 && (c == 0 && (!d)))) = true
  · rw [if_pos h]
    simp at h
    obtain ⟨rfl,rfl,rfl,_⟩:=h
    rfl
  rw [if_neg h]
  by_cases c1 : a ≥ 0
  · rw [if_pos c1]
    by_cases c2 : a ≤ 2147483647
    · rw [if_pos c2]
      by_cases c3 : b ≥ 0
      · rw [if_pos c3]
        by_cases c4 : b ≤ a
        · rw [if_pos c4]
          by_cases c5 : c ≥ -4294967296
          · rw [if_pos c5];congr 1;rw [decide_eq_decide];omega
          · rw [if_neg c5];congr 1;exact (decide_eq_false (by omega)).symm
        · rw [if_neg c4];congr 1;exact (decide_eq_false (by omega)).symm
      · rw [if_neg c3];congr 1;exact (decide_eq_false (by omega)).symm
    · rw [if_neg c2];congr 1;exact (decide_eq_false (by omega)).symm
  · rw [if_neg c1];congr 1;exact (decide_eq_false (by omega)).symm
/-- What is done behind a round, out of the correction. -/
def turnC (c : Int × Int) (a b t : Int) (d : Bool) : Int × Int × Int × Bool × Int × Int :=
  if c.2 = 150 ∨ mayB a b t d = false then (0,0,0,false,0,150)
  else if c.2 = 151 ∨ d = true then (a,b,t,true,0,151)
  else if mayB (wrap64 (a + 1)) (if c.1 = 0 then b else wrap64 (b + 1)) (wrap64 (t + c.1)) d = true then (wrap64 (a + 1),(if c.1 = 0 then b else wrap64 (b + 1)),wrap64 (t + c.1),d,c.1,0)
  else (0,0,0,false,0,150)
theorem turn_eq (p : Pl) (a b t : Int) (d : Bool) (l : List Int) (c : Int × Int) (k : Nat) (hc : resync_Correction.f (k + 2) p.a0 p.a1 p.a2 p.a3 p.a4 p.a5 p.a6 p.a7 p.a8 p.a9 p.a10 p.a11 p.a12 p.a13 p.a14 p.a15 l = some c) : resync_Turn.f (k + 2) p.a0 p.a1 p.a2 p.a3 p.a4 p.a5 p.a6 p.a7 p.a8 p.a9 p.a10 p.a11 p.a12 p.a13 p.a14 p.a15 a b t d l = some (turnC c a b t d):=by
  unfold resync_Turn.f turnC
  rw [hc,Option.bind_some]
  by_cases h : c.2 = 150
  · rw [if_pos h,if_pos (.inl h)]
    simp only [resync_Turn.j0,if_true]
  rw [if_neg h,may_eq,Option.bind_some]
  cases hm : mayB a b t d with
  | false=>rw [if_pos (.inr rfl)];simp only [resync_Turn.j0,Bool.not_false,if_true]
  | true =>
    rw [if_neg (by simp [h])]
    simp only [resync_Turn.j0,Bool.not_true,Bool.false_eq_true,if_false]
    by_cases h1 : c.2 = 151
    · rw [if_pos h1,if_pos (.inl h1)]
      simp only [resync_Turn.j1,if_true]
    rw [if_neg h1]
    cases d with
    | true=>rw [if_pos (.inr rfl)];simp only [resync_Turn.j1,if_true]
    | false =>
      rw [if_neg (by simp [h1])]
      simp only [resync_Turn.j1,Bool.false_eq_true,if_false]
      by_cases h0 : c.1 = 0
      · simp only [h0,if_true]
        rw [may_eq,Option.bind_some]
        split <;> rfl
      · simp only [if_neg h0]
        rw [may_eq,Option.bind_some]
        split <;> rfl
end Go.Proofs.Ytnmephdamgofnaa.Mid
/- The document's conditions of a plan are the program's; the chapter's plan. -/
set_option linter.unusedVariables false
set_option linter.unusedSimpArgs false
namespace Go.Proofs.Ytnmephdamgofnaa.Mid
open Go.RowKit Go.Proofs.Ytnmephdamgofnaa.Hand Go.Proofs.Ytnmephdamgofnaa.PA Go.Proofs.Ytnmephdamgofnaa.PB Go.Proofs.YtnmephdamgofnaaW.PrintWords Go.Proofs.YtnmephdamgofnaaW.PrintMore

theorem wr_l (x y : Int) : wrap64 (wrap64 x + y) = wrap64 (x + y):=by unfold wrap64;omega
theorem wr_r (x y : Int) : wrap64 (x + wrap64 y) = wrap64 (x + y):=by unfold wrap64;omega
theorem wr_2 (x : Int) : wrap64 (2 * wrap64 x) = wrap64 (2 * x):=by unfold wrap64;omega
def nE (p : Pl) : Int:=wrap64 (wrap64 (p.a7 - p.a6) + 6)
def nR (p : Pl) : Int:=wrap64 (p.a0 * p.a2)
def nG (p : Pl) : Int:=wrap64 (2 * wrap64 (wrap64 (Int.tdiv (wrap64 (2 * nR p)) p.a8) + 4))
def nA (p : Pl) : Int:=wrap64 (2 * wrap64 (nE p + nG p))
abbrev C1 (p : Pl) : Prop:=4 ≤ p.a0∧p.a0 ≤ 16∧0 ≤ p.a1∧2 * p.a1 + 2 ≤ p.a0
abbrev C2 (p : Pl) : Prop:=1 ≤ p.a5∧p.a5 ≤ 1048576∧0 ≤ p.a6∧p.a6 ≤ p.a7∧p.a7 ≤ 1048576
abbrev C3 (p : Pl) : Prop:=1 ≤ p.a2∧p.a2 ≤ 1048576∧4 ≤ p.a8∧p.a8 ≤ 1048576
def b4 (p : Pl) : Bool:=decide (wrap64 (wrap64 (2 * wrap64 (nA p + nG p)) + nE p) ≤ p.a9∧p.a9 ≤ 1048576)
def b5 (p : Pl) : Bool:=decide (wrap64 (p.a9 + nE p) ≤ p.a4∧p.a4 ≤ 1048576)
def b6 (p : Pl) : Bool:=decide (wrap64 (wrap64 (nA p + wrap64 (2 * nG p)) + wrap64 (2 * nE p)) ≤ p.a10∧p.a10 ≤ 1048576)
def b7 (p : Pl) : Bool:=decide (wrap64 (wrap64 (p.a4 + p.a10) + p.a9) ≤ p.a3∧p.a3 ≤ 1048576)
def b8 (p : Pl) : Bool:=decide (wrap64 (wrap64 (wrap64 (wrap64 (wrap64 (wrap64 (p.a3 + p.a4) + wrap64 (2 * p.a7)) + wrap64 (2 * p.a5)) + p.a10) + p.a9) + 8) ≤ p.a2)
def b9 (p : Pl) : Bool:=decide (1 ≤ p.a12∧p.a12 ≤ 64∧1 ≤ p.a13∧p.a13 ≤ 8∧1 ≤ p.a14∧p.a14 ≤ 32)
def nQ (p : Pl) : Int:=if wrap64 (wrap64 (Int.tdiv p.a12 p.a13) * p.a13) < p.a12 then wrap64 (wrap64 (Int.tdiv p.a12 p.a13) + 1) else wrap64 (Int.tdiv p.a12 p.a13)
def b10 (p : Pl) : Bool:=decide (wrap64 (wrap64 (wrap64 (nQ p + 3) * nR p) + wrap64 (2 * p.a9)) ≤ p.a11∧p.a11 ≤ wrap64 (64 * nR p))
def b11 (p : Pl) : Bool:=decide (wrap64 (40 * nR p) ≤ p.a15∧p.a15 ≤ 2147483648)
theorem c1_eq (p : Pl) (h0 : -9223372036854775808 ≤ p.a0∧p.a0 ≤ 9223372036854775807) : condO p 1 = some (decide (C1 p)):=by
  show plan_look_nodes.f p.a0 p.a1 p.a2 p.a3 p.a4 p.a5 p.a6 p.a7 p.a8 p.a9 p.a10 p.a11 p.a12 p.a13 p.a14 p.a15 = _
  unfold plan_look_nodes.f
  rw [in_eq,Option.bind_some]
  by_cases h : 4 ≤ p.a0∧p.a0 ≤ 16
  · rw [decide_eq_true h,if_pos rfl,in_eq,Option.bind_some,wrap_id (x:=p.a0 - 2) (by omega) (by omega),Int.tdiv_eq_ediv_of_nonneg (by omega),wrap_id (by omega) (by omega)]
    congr 1
    rw [decide_eq_decide]
    unfold C1
    omega
  · rw [decide_eq_false h,if_neg (by decide)]
    congr 1
    refine (decide_eq_false ?_).symm
    unfold C1
    omega
theorem c2_eq (p : Pl) : condO p 2 = some (decide (C2 p)):=by
  show plan_look_air.f p.a0 p.a1 p.a2 p.a3 p.a4 p.a5 p.a6 p.a7 p.a8 p.a9 p.a10 p.a11 p.a12 p.a13 p.a14 p.a15 = _
  unfold plan_look_air.f
  rw [in_eq,Option.bind_some]
  by_cases h : 1 ≤ p.a5∧p.a5 ≤ 1048576
  · rw [decide_eq_true h,if_pos rfl]
    by_cases h2 : p.a6 ≥ 0
    · rw [if_pos h2,in_eq,Option.bind_some]
      congr 1
      rw [decide_eq_decide]
      unfold C2
      omega
    · rw [if_neg h2]
      congr 1
      refine (decide_eq_false ?_).symm
      unfold C2
      omega
  · rw [decide_eq_false h,if_neg (by decide)]
    congr 1
    refine (decide_eq_false ?_).symm
    unfold C2
    omega
theorem c3_eq (p : Pl) : condO p 3 = some (decide (C3 p)):=by
  show plan_look_slot.f p.a0 p.a1 p.a2 p.a3 p.a4 p.a5 p.a6 p.a7 p.a8 p.a9 p.a10 p.a11 p.a12 p.a13 p.a14 p.a15 = _
  unfold plan_look_slot.f
  rw [in_eq,Option.bind_some]
  by_cases h : 1 ≤ p.a2∧p.a2 ≤ 1048576
  · rw [decide_eq_true h,if_pos rfl,in_eq,Option.bind_some]
    congr 1
    rw [decide_eq_decide]
    unfold C3
    omega
  · rw [decide_eq_false h,if_neg (by decide)]
    congr 1
    refine (decide_eq_false ?_).symm
    unfold C3
    omega
theorem g_eq (p : Pl) (h : p.a8 ≠ 0) : plan_look_g.f p.a0 p.a1 p.a2 p.a3 p.a4 p.a5 p.a6 p.a7 p.a8 p.a9 p.a10 p.a11 p.a12 p.a13 p.a14 p.a15 = some (nG p):=by
  unfold plan_look_g.f plan_look_round.f
  rw [Option.bind_some,if_neg h]
  rfl
theorem e_eq (p : Pl) : plan_look_e.f p.a0 p.a1 p.a2 p.a3 p.a4 p.a5 p.a6 p.a7 p.a8 p.a9 p.a10 p.a11 p.a12 p.a13 p.a14 p.a15 = some (nE p):=rfl
theorem a_eq (p : Pl) (h : p.a8 ≠ 0) : plan_look_a.f p.a0 p.a1 p.a2 p.a3 p.a4 p.a5 p.a6 p.a7 p.a8 p.a9 p.a10 p.a11 p.a12 p.a13 p.a14 p.a15 = some (nA p):=by
  unfold plan_look_a.f
  rw [e_eq,Option.bind_some,g_eq p h,Option.bind_some]
  rfl
theorem c4_eq (p : Pl) (h : p.a8 ≠ 0) : condO p 4 = some (b4 p):=by
  show plan_look_pi.f p.a0 p.a1 p.a2 p.a3 p.a4 p.a5 p.a6 p.a7 p.a8 p.a9 p.a10 p.a11 p.a12 p.a13 p.a14 p.a15 = _
  unfold plan_look_pi.f plan_look_leastPi.f
  rw [a_eq p h,Option.bind_some,g_eq p h,Option.bind_some,e_eq,Option.bind_some,Option.bind_some,in_eq]
  rfl
theorem c5_eq (p : Pl) : condO p 5 = some (b5 p):=by
  show plan_look_window.f p.a0 p.a1 p.a2 p.a3 p.a4 p.a5 p.a6 p.a7 p.a8 p.a9 p.a10 p.a11 p.a12 p.a13 p.a14 p.a15 = _
  unfold plan_look_window.f plan_look_leastWindow.f
  rw [e_eq,Option.bind_some,Option.bind_some,in_eq]
  rfl
theorem c6_eq (p : Pl) (h : p.a8 ≠ 0) : condO p 6 = some (b6 p):=by
  show plan_look_limit.f p.a0 p.a1 p.a2 p.a3 p.a4 p.a5 p.a6 p.a7 p.a8 p.a9 p.a10 p.a11 p.a12 p.a13 p.a14 p.a15 = _
  unfold plan_look_limit.f plan_look_leastCap.f
  rw [a_eq p h,Option.bind_some,g_eq p h,Option.bind_some,e_eq,Option.bind_some,Option.bind_some,in_eq]
  rfl
theorem c7_eq (p : Pl) : condO p 7 = some (b7 p):=by
  show plan_look_sends.f p.a0 p.a1 p.a2 p.a3 p.a4 p.a5 p.a6 p.a7 p.a8 p.a9 p.a10 p.a11 p.a12 p.a13 p.a14 p.a15 = _
  unfold plan_look_sends.f plan_look_leastOff.f
  rw [Option.bind_some,in_eq]
  rfl
theorem c8_eq (p : Pl) : condO p 8 = some (b8 p):=by
  show plan_look_fits.f p.a0 p.a1 p.a2 p.a3 p.a4 p.a5 p.a6 p.a7 p.a8 p.a9 p.a10 p.a11 p.a12 p.a13 p.a14 p.a15 = _
  unfold plan_look_fits.f plan_look_leastSlot.f b8
  rw [Option.bind_some]
  congr 1
  rw [decide_eq_decide]
  simp only [wr_l,wr_r,wr_2]
  rw [show p.a3 + p.a4 + 2 * (p.a7 + p.a5) + p.a10 + p.a9 + 8 = p.a3 + p.a4 + 2 * p.a7 + 2 * p.a5 + p.a10 + p.a9 + 8 by omega]
theorem c9_eq (p : Pl) : condO p 9 = some (b9 p):=by
  show plan_look_queue.f p.a0 p.a1 p.a2 p.a3 p.a4 p.a5 p.a6 p.a7 p.a8 p.a9 p.a10 p.a11 p.a12 p.a13 p.a14 p.a15 = _
  unfold plan_look_queue.f b9
  rw [in_eq,Option.bind_some]
  by_cases h : 1 ≤ p.a12∧p.a12 ≤ 64
  · rw [decide_eq_true h,if_pos rfl,in_eq,Option.bind_some]
    by_cases h2 : 1 ≤ p.a13∧p.a13 ≤ 8
    · rw [decide_eq_true h2,if_pos rfl,in_eq,Option.bind_some]
      congr 1
      rw [decide_eq_decide]
      omega
    · rw [decide_eq_false h2,if_neg (by decide)]
      congr 1
      exact (decide_eq_false (by omega)).symm
  · rw [decide_eq_false h,if_neg (by decide)]
    congr 1
    exact (decide_eq_false (by omega)).symm
theorem ceil_fin : ∀ q ∈ List.range 65,∀ b ∈ List.range 9,1 ≤ q→1 ≤ b→wrap64 (wrap64 (Int.tdiv (wrap64 (wrap64 ((q : Int) + (b : Int)) - 1)) (b : Int)) + 3) = wrap64 ((if wrap64 (wrap64 (Int.tdiv (q : Int) (b : Int)) * (b : Int)) < (q : Int) then wrap64 (wrap64 (Int.tdiv (q : Int) (b : Int)) + 1) else wrap64 (Int.tdiv (q : Int) (b : Int))) + 3):=by decide +kernel
theorem c10_eq (p : Pl) (h9 : b9 p = true) : condO p 10 = some (b10 p):=by
  have h:=of_decide_eq_true h9
  show plan_look_delta.f p.a0 p.a1 p.a2 p.a3 p.a4 p.a5 p.a6 p.a7 p.a8 p.a9 p.a10 p.a11 p.a12 p.a13 p.a14 p.a15 = _
  unfold plan_look_delta.f plan_look_leastDelta.f plan_look_round.f
  rw [if_neg (by omega),Option.bind_some,Option.bind_some,Option.bind_some,in_eq]
  have:=ceil_fin p.a12.toNat (by simp;omega) p.a13.toNat (by simp;omega) (by omega) (by omega)
  rw [show ((p.a12.toNat : Nat) : Int) = p.a12 by omega,show ((p.a13.toNat : Nat) : Int) = p.a13 by omega] at this
  rw [this]
  rfl
theorem c11_eq (p : Pl) : condO p 11 = some (b11 p):=by
  show plan_look_horizon.f p.a0 p.a1 p.a2 p.a3 p.a4 p.a5 p.a6 p.a7 p.a8 p.a9 p.a10 p.a11 p.a12 p.a13 p.a14 p.a15 = _
  unfold plan_look_horizon.f plan_look_round.f
  rw [Option.bind_some,in_eq]
  rfl
theorem two_b {α : Type} (F : Bool→α) (a L M : Int) : (if a < L then F true else F (decide (a > M))) = F (!decide (L ≤ a∧a ≤ M)):=by
  by_cases h : a < L
  · rw [if_pos h,decide_eq_false (by omega)];rfl
  · rw [if_neg h]
    congr 1
    by_cases h2 : a > M
    · rw [decide_eq_true h2,decide_eq_false (by omega)];rfl
    · rw [decide_eq_false h2,decide_eq_true (by omega)];rfl
theorem six_b {α : Type} (F : Bool→α) (a b c : Int) : (if a < 1 then F true else if a > 64 then F true else if b < 1 then F true else if b > 8 then F true else if c < 1 then F true else F (decide (c > 32))) = F (!decide (1 ≤ a∧a ≤ 64∧1 ≤ b∧b ≤ 8∧1 ≤ c∧c ≤ 32)):=by
  by_cases h1 : a < 1
  · rw [if_pos h1,decide_eq_false (by omega)];rfl
  rw [if_neg h1]
  by_cases h2 : a > 64
  · rw [if_pos h2,decide_eq_false (by omega)];rfl
  rw [if_neg h2]
  by_cases h3 : b < 1
  · rw [if_pos h3,decide_eq_false (by omega)];rfl
  rw [if_neg h3]
  by_cases h4 : b > 8
  · rw [if_pos h4,decide_eq_false (by omega)];rfl
  rw [if_neg h4]
  by_cases h5 : c < 1
  · rw [if_pos h5,decide_eq_false (by omega)];rfl
  rw [if_neg h5]
  congr 1
  by_cases h6 : c > 32
  · rw [decide_eq_true h6,decide_eq_false (by omega)];rfl
  · rw [decide_eq_false h6,decide_eq_true (by omega)];rfl
theorem first_eq (p : Pl) (k : Nat) : vespersref07_first.f (k + 2) p.a0 p.a1 p.a2 p.a3 p.a4 p.a5 p.a6 p.a7 p.a8 p.a9 p.a10 p.a11 p.a12 p.a13 p.a14 p.a15 = some (if C1 p then if C2 p then if C3 p then 0 else 3 else 2 else 1):=by
  have t3 : ∀ x : Bool,vespersref07_first.j1 (k + 1) x p.a0 p.a1 p.a2 p.a3 p.a4 p.a5 p.a6 p.a7 p.a8 p.a9 p.a10 p.a11 p.a12 p.a13 p.a14 p.a15 = some (if x = true then 2 else if C3 p then 0 else 3):=by
    intro x
    simp only [vespersref07_first.j1]
    cases x with
    | true=>rfl
    | false =>
      simp only [Bool.false_eq_true,if_false]
      unfold C3
      by_cases h1 : p.a2 < 1
      · rw [if_pos h1,if_neg (by omega)]
      rw [if_neg h1]
      by_cases h2 : p.a2 > 1048576
      · rw [if_pos h2,if_neg (by omega)]
      rw [if_neg h2]
      by_cases h3 : p.a8 < 4
      · rw [if_pos h3,if_neg (by omega)]
      rw [if_neg h3]
      by_cases h4 : p.a8 > 1048576
      · rw [if_pos h4,if_neg (by omega)]
      rw [if_neg h4,if_pos (by omega)]
  have t2 : ∀ x : Bool,vespersref07_first.j0 (k + 2) x p.a0 p.a1 p.a2 p.a3 p.a4 p.a5 p.a6 p.a7 p.a8 p.a9 p.a10 p.a11 p.a12 p.a13 p.a14 p.a15 = some (if x = true then 1 else if C2 p then if C3 p then 0 else 3 else 2):=by
    intro x
    simp only [vespersref07_first.j0]
    cases x with
    | true=>rfl
    | false =>
      simp only [Bool.false_eq_true,if_false]
      unfold C2
      by_cases h1 : p.a5 < 1
      · rw [if_pos h1,t3,if_pos rfl,if_neg (by omega)]
      rw [if_neg h1]
      by_cases h2 : p.a5 > 1048576
      · rw [if_pos h2,t3,if_pos rfl,if_neg (by omega)]
      rw [if_neg h2]
      by_cases h3 : p.a6 < 0
      · rw [if_pos h3,t3,if_pos rfl,if_neg (by omega)]
      rw [if_neg h3]
      by_cases h4 : p.a7 < p.a6
      · rw [if_pos h4,t3,if_pos rfl,if_neg (by omega)]
      rw [if_neg h4,t3]
      by_cases h5 : p.a7 > 1048576
      · rw [decide_eq_true h5,if_pos rfl,if_neg (by omega)]
      · have hc : 1 ≤ p.a5∧p.a5 ≤ 1048576∧0 ≤ p.a6∧p.a6 ≤ p.a7∧p.a7 ≤ 1048576:=by omega
        rw [decide_eq_false h5,if_neg (by decide),if_pos hc]
  unfold vespersref07_first.f C1
  by_cases h1 : p.a0 < 4
  · rw [if_pos h1,t2,if_pos rfl,if_neg (by omega)]
  rw [if_neg h1]
  by_cases h2 : p.a0 > 16
  · rw [if_pos h2,t2,if_pos rfl,if_neg (by omega)]
  rw [if_neg h2]
  by_cases h3 : p.a1 < 0
  · rw [if_pos h3,t2,if_pos rfl,if_neg (by omega)]
  rw [if_neg h3]
  by_cases h4 : p.a1 > 16
  · rw [if_pos h4,t2,if_pos rfl,if_neg (by omega)]
  rw [if_neg h4,t2,wrap_id (x:=2 * p.a1) (by omega) (by omega),wrap_id (x:=2 * p.a1 + 2) (by omega) (by omega)]
  by_cases h5 : p.a0 < 2 * p.a1 + 2
  · rw [decide_eq_true h5,if_pos rfl,if_neg (by omega)]
  · have hc : 4 ≤ p.a0∧p.a0 ≤ 16∧0 ≤ p.a1∧2 * p.a1 + 2 ≤ p.a0:=by omega
    rw [decide_eq_false h5,if_neg (by decide),if_pos hc]
theorem chain_eq (p : Pl) (k : Nat) (h8 : p.a8 ≠ 0) :
    (if p.a9 < wrap64 (wrap64 (2 * wrap64 (nA p + nG p)) + nE p) then vespersref07_Fails.j0 (k + 7) (nE p) (nG p) (nA p) (nR p) true p.a0 p.a1 p.a2 p.a3 p.a4 p.a5 p.a6 p.a7 p.a8 p.a9 p.a10 p.a11 p.a12 p.a13 p.a14 p.a15 else vespersref07_Fails.j0 (k + 7) (nE p) (nG p) (nA p) (nR p) (decide (p.a9 > 1048576)) p.a0 p.a1 p.a2 p.a3 p.a4 p.a5 p.a6 p.a7 p.a8 p.a9 p.a10 p.a11 p.a12 p.a13 p.a14 p.a15) = failsC (condO p) 8 4:=by
  rw [two_b (fun x=>vespersref07_Fails.j0 (k + 7) (nE p) (nG p) (nA p) (nR p) x p.a0 p.a1 p.a2 p.a3 p.a4 p.a5 p.a6 p.a7 p.a8 p.a9 p.a10 p.a11 p.a12 p.a13 p.a14 p.a15)]
  unfold failsC
  rw [c4_eq p h8,Option.bind_some]
  show vespersref07_Fails.j0 (k + 7) (nE p) (nG p) (nA p) (nR p) (!b4 p) p.a0 p.a1 p.a2 p.a3 p.a4 p.a5 p.a6 p.a7 p.a8 p.a9 p.a10 p.a11 p.a12 p.a13 p.a14 p.a15 = _
  simp only [vespersref07_Fails.j0]
  cases b4 p with
  | false=>rfl
  | true =>
  simp only [Bool.not_true,Bool.false_eq_true,if_false,if_true]
  rw [two_b (fun x=>vespersref07_Fails.j1 (k + 6) (nE p) (nG p) (nA p) (nR p) x p.a0 p.a1 p.a2 p.a3 p.a4 p.a5 p.a6 p.a7 p.a8 p.a9 p.a10 p.a11 p.a12 p.a13 p.a14 p.a15)]
  unfold failsC
  rw [c5_eq,Option.bind_some]
  show vespersref07_Fails.j1 (k + 6) (nE p) (nG p) (nA p) (nR p) (!b5 p) p.a0 p.a1 p.a2 p.a3 p.a4 p.a5 p.a6 p.a7 p.a8 p.a9 p.a10 p.a11 p.a12 p.a13 p.a14 p.a15 = _
  simp only [vespersref07_Fails.j1]
  cases b5 p with
  | false=>rfl
  | true =>
  simp only [Bool.not_true,Bool.false_eq_true,if_false,if_true]
  rw [two_b (fun x=>vespersref07_Fails.j2 (k + 5) (nR p) x p.a0 p.a1 p.a2 p.a3 p.a4 p.a5 p.a6 p.a7 p.a8 p.a9 p.a10 p.a11 p.a12 p.a13 p.a14 p.a15)]
  unfold failsC
  rw [c6_eq p h8,Option.bind_some]
  show vespersref07_Fails.j2 (k + 5) (nR p) (!b6 p) p.a0 p.a1 p.a2 p.a3 p.a4 p.a5 p.a6 p.a7 p.a8 p.a9 p.a10 p.a11 p.a12 p.a13 p.a14 p.a15 = _
  simp only [vespersref07_Fails.j2]
  cases b6 p with
  | false=>rfl
  | true =>
  simp only [Bool.not_true,Bool.false_eq_true,if_false,if_true]
  rw [two_b (fun x=>vespersref07_Fails.j3 (k + 4) (nR p) x p.a0 p.a1 p.a2 p.a3 p.a4 p.a5 p.a6 p.a7 p.a8 p.a9 p.a10 p.a11 p.a12 p.a13 p.a14 p.a15)]
  unfold failsC
  rw [c7_eq,Option.bind_some]
  show vespersref07_Fails.j3 (k + 4) (nR p) (!b7 p) p.a0 p.a1 p.a2 p.a3 p.a4 p.a5 p.a6 p.a7 p.a8 p.a9 p.a10 p.a11 p.a12 p.a13 p.a14 p.a15 = _
  simp only [vespersref07_Fails.j3]
  cases b7 p with
  | false=>rfl
  | true =>
  simp only [Bool.not_true,Bool.false_eq_true,if_false,if_true]
  unfold failsC
  rw [c8_eq,Option.bind_some]
  unfold b8
  generalize wrap64 (wrap64 (wrap64 (wrap64 (wrap64 (wrap64 (p.a3 + p.a4) + wrap64 (2 * p.a7)) + wrap64 (2 * p.a5)) + p.a10) + p.a9) + 8) = L8
  by_cases h : p.a2 < L8
  · have hd : decide (L8 ≤ p.a2) = false:=decide_eq_false (by omega)
    rw [if_pos h,hd];rfl
  have hd : decide (L8 ≤ p.a2) = true:=decide_eq_true (by omega)
  rw [if_neg h,hd,if_pos rfl]
  rw [six_b (fun x=>vespersref07_Fails.j4 (k + 3) (nR p) x p.a0 p.a1 p.a2 p.a3 p.a4 p.a5 p.a6 p.a7 p.a8 p.a9 p.a10 p.a11 p.a12 p.a13 p.a14 p.a15)]
  unfold failsC
  rw [c9_eq,Option.bind_some]
  show vespersref07_Fails.j4 (k + 3) (nR p) (!b9 p) p.a0 p.a1 p.a2 p.a3 p.a4 p.a5 p.a6 p.a7 p.a8 p.a9 p.a10 p.a11 p.a12 p.a13 p.a14 p.a15 = _
  simp only [vespersref07_Fails.j4]
  cases h9 : b9 p with
  | false=>rfl
  | true =>
  have h9':=of_decide_eq_true h9
  simp only [Bool.not_true,Bool.false_eq_true,if_false,if_true]
  rw [if_neg (by omega)]
  have hq : (if wrap64 (wrap64 (Int.tdiv p.a12 p.a13) * p.a13) < p.a12 then vespersref07_Fails.j5 (k + 2) (nR p) (wrap64 (wrap64 (Int.tdiv p.a12 p.a13) + 1)) p.a0 p.a1 p.a2 p.a3 p.a4 p.a5 p.a6 p.a7 p.a8 p.a9 p.a10 p.a11 p.a12 p.a13 p.a14 p.a15 else vespersref07_Fails.j5 (k + 2) (nR p) (wrap64 (Int.tdiv p.a12 p.a13)) p.a0 p.a1 p.a2 p.a3 p.a4 p.a5 p.a6 p.a7 p.a8 p.a9 p.a10 p.a11 p.a12 p.a13 p.a14 p.a15) = vespersref07_Fails.j5 (k + 2) (nR p) (nQ p) p.a0 p.a1 p.a2 p.a3 p.a4 p.a5 p.a6 p.a7 p.a8 p.a9 p.a10 p.a11 p.a12 p.a13 p.a14 p.a15:=by
    unfold nQ
    split <;> rfl
  rw [hq]
  simp only [vespersref07_Fails.j5]
  rw [two_b (fun x=>vespersref07_Fails.j6 (k + 1) (nR p) x p.a0 p.a1 p.a2 p.a3 p.a4 p.a5 p.a6 p.a7 p.a8 p.a9 p.a10 p.a11 p.a12 p.a13 p.a14 p.a15)]
  unfold failsC
  rw [c10_eq p h9,Option.bind_some]
  show vespersref07_Fails.j6 (k + 1) (nR p) (!b10 p) p.a0 p.a1 p.a2 p.a3 p.a4 p.a5 p.a6 p.a7 p.a8 p.a9 p.a10 p.a11 p.a12 p.a13 p.a14 p.a15 = _
  simp only [vespersref07_Fails.j6]
  cases b10 p with
  | false=>rfl
  | true =>
  simp only [Bool.not_true,Bool.false_eq_true,if_false,if_true]
  unfold failsC
  rw [c11_eq,Option.bind_some]
  unfold b11
  by_cases hh : p.a15 < wrap64 (40 * nR p)
  · rw [if_pos hh,decide_eq_false (by omega)];rfl
  rw [if_neg hh]
  by_cases hh2 : p.a15 > 2147483648
  · rw [if_pos hh2,decide_eq_false (by omega)];rfl
  · rw [if_neg hh2,decide_eq_true (by omega)];rfl
theorem ref_fails (p : Pl) (h0 : -9223372036854775808 ≤ p.a0∧p.a0 ≤ 9223372036854775807) (k : Nat) : vespersref07_Fails.f (k + 7) p.a0 p.a1 p.a2 p.a3 p.a4 p.a5 p.a6 p.a7 p.a8 p.a9 p.a10 p.a11 p.a12 p.a13 p.a14 p.a15 = plan_Fails.f p.a0 p.a1 p.a2 p.a3 p.a4 p.a5 p.a6 p.a7 p.a8 p.a9 p.a10 p.a11 p.a12 p.a13 p.a14 p.a15:=by
  have hp : plan_Fails.f p.a0 p.a1 p.a2 p.a3 p.a4 p.a5 p.a6 p.a7 p.a8 p.a9 p.a10 p.a11 p.a12 p.a13 p.a14 p.a15 = failsC (condO p) 11 1:=rfl
  rw [hp]
  unfold vespersref07_Fails.f failsC
  rw [first_eq p (k + 5),Option.bind_some,c1_eq p h0,Option.bind_some]
  by_cases h1 : C1 p
  · rw [if_pos h1,decide_eq_true h1,if_pos rfl]
    unfold failsC
    rw [c2_eq,Option.bind_some]
    by_cases h2 : C2 p
    · rw [if_pos h2,decide_eq_true h2,if_pos rfl]
      unfold failsC
      rw [c3_eq,Option.bind_some]
      by_cases h3 : C3 p
      · rw [if_pos h3,decide_eq_true h3,if_pos rfl,if_neg (by decide)]
        have h8 : p.a8 ≠ 0:=by unfold C3 at h3;omega
        have hn : vespersref07_numbers.f p.a0 p.a1 p.a2 p.a3 p.a4 p.a5 p.a6 p.a7 p.a8 p.a9 p.a10 p.a11 p.a12 p.a13 p.a14 p.a15 = some (nE p,nG p,nA p):=by
          unfold vespersref07_numbers.f
          rw [if_neg h8]
          rfl
        rw [hn,Option.bind_some]
        exact chain_eq p k h8
      · rw [if_neg h3,decide_eq_false h3,if_pos (by decide)];rfl
    · rw [if_neg h2,decide_eq_false h2,if_pos (by decide)];rfl
  · rw [if_neg h1,decide_eq_false h1,if_pos (by decide)];rfl
theorem ref_check_ok (p : Pl) (h0 : -9223372036854775808 ≤ p.a0∧p.a0 ≤ 9223372036854775807) (h : planOk p) (k : Nat) (hk : 7 ≤ k) : vespersref07_Check.f k p.a0 p.a1 p.a2 p.a3 p.a4 p.a5 p.a6 p.a7 p.a8 p.a9 p.a10 p.a11 p.a12 p.a13 p.a14 p.a15 = some 0:=by
  obtain ⟨k,rfl⟩ : ∃ j,k = j + 7:=⟨k - 7,by omega⟩
  unfold vespersref07_Check.f
  obtain ⟨r,hr,hx⟩:=fails_total p
  rw [ref_fails p h0 k,hr,Option.bind_some]
  rcases hx with ⟨rfl,_⟩|⟨_,hn⟩
  · rfl
  · exact absurd h hn
theorem ref_check_no (p : Pl) (h0 : -9223372036854775808 ≤ p.a0∧p.a0 ≤ 9223372036854775807) (h : ¬ planOk p) (k : Nat) (hk : 7 ≤ k) : vespersref07_Check.f k p.a0 p.a1 p.a2 p.a3 p.a4 p.a5 p.a6 p.a7 p.a8 p.a9 p.a10 p.a11 p.a12 p.a13 p.a14 p.a15 = some 70:=by
  obtain ⟨k,rfl⟩ : ∃ j,k = j + 7:=⟨k - 7,by omega⟩
  unfold vespersref07_Check.f
  obtain ⟨r,hr,hx⟩:=fails_total p
  rw [ref_fails p h0 k,hr,Option.bind_some]
  rcases hx with ⟨_,hy⟩|⟨h1,_⟩
  · exact absurd hy h
  · rw [if_pos (by omega)]
end Go.Proofs.Ytnmephdamgofnaa.Mid
/- Plain facts on the document's midpoint, up to 50 values. -/
set_option linter.unusedVariables false
set_option linter.unusedSimpArgs false
namespace Go.Proofs.Ytnmephdamgofnaa.Mid
open Go.RowKit Go.Proofs.Ytnmephdamgofnaa.Hand Go.Proofs.Ytnmephdamgofnaa.PA Go.Proofs.YtnmephdamgofnaaW.PrintWords Go.Proofs.YtnmephdamgofnaaW.PrintLast

theorem rdg (l : List Int) (i : Nat) (h : i < l.length) : rd l (i : Int) = l[i]:=by
  unfold rd
  rw [Int.toNat_natCast,List.getD_eq_getElem?_getD,List.getElem?_eq_getElem h,Option.getD_some]
/-- Does j stand ahead of i, when the values are sorted? -/
def ahB (l : List Int) (i j : Nat) : Bool:=decide (rd l (j : Int) < rd l (i : Int)) || (decide (rd l (j : Int) = rd l (i : Int)) && decide (j < i))
/-- How many of the first j stand ahead of i. -/
def rkTo (l : List Int) (i : Nat) : Nat→Nat
  | 0=>0
  | j + 1=>rkTo l i j + if ahB l i j = true then 1 else 0
theorem rkTo_le (l : List Int) (i : Nat) : ∀ j,rkTo l i j ≤ j
  | 0=>Nat.le_refl _
  | j + 1=>by have:=rkTo_le l i j;unfold rkTo;split <;> omega
def eqc (v : Int) (l : List Int) : Nat:=l.countP fun x=>decide (x = v)
theorem cle_split (v : Int) (l : List Int) : cle v l = cle (v - 1) l + eqc v l:=by
  unfold cle eqc
  induction l with
  | nil=>rfl
  | cons x t ih =>
    simp only [List.countP_cons,ih,decide_eq_true_eq]
    split <;> split <;> split <;> omega
theorem rkTo_eq (l : List Int) (i : Nat) : ∀ j,j ≤ l.length→rkTo l i j = cle (rd l (i : Int) - 1) (l.take j) + eqc (rd l (i : Int)) (l.take (min j i))
  | 0=>fun _=>by simp [rkTo,cle,eqc]
  | j + 1=>fun hj=>by
    have ih:=rkTo_eq l i j (by omega)
    have hlt : j < l.length:=by omega
    have e1 : cle (rd l (i : Int) - 1) (l.take (j + 1)) = cle (rd l (i : Int) - 1) (l.take j) + if rd l (j : Int) < rd l (i : Int) then 1 else 0:=by
      unfold cle
      rw [List.take_succ_eq_append_getElem hlt,List.countP_append,rdg l j hlt]
      by_cases hx : l[j] < rd l (i : Int)
      · rw [if_pos hx,List.countP_cons_of_pos (by simp;omega)];rfl
      · rw [if_neg hx,List.countP_cons_of_neg (by simp;omega)];rfl
    unfold rkTo
    rw [e1,ih]
    by_cases hji : j < i
    · have e2 : eqc (rd l (i : Int)) (l.take (min (j + 1) i)) = eqc (rd l (i : Int)) (l.take (min j i)) + if rd l (j : Int) = rd l (i : Int) then 1 else 0:=by
        rw [show min (j + 1) i = j + 1 by omega,show min j i = j by omega]
        unfold eqc
        rw [List.take_succ_eq_append_getElem hlt,List.countP_append,rdg l j hlt]
        by_cases hx : l[j] = rd l (i : Int)
        · rw [if_pos hx,List.countP_cons_of_pos (by simpa using hx)];rfl
        · rw [if_neg hx,List.countP_cons_of_neg (by simpa using hx)];rfl
      rw [e2]
      by_cases p1 : rd l (j : Int) < rd l (i : Int)
      · rw [if_pos (show ahB l i j = true by simp [ahB,p1]),if_pos p1,if_neg (show ¬ rd l (j : Int) = rd l (i : Int) by omega)];omega
      · by_cases p2 : rd l (j : Int) = rd l (i : Int)
        · rw [if_pos (show ahB l i j = true by simp [ahB,p2,hji]),if_neg p1,if_pos p2];omega
        · rw [if_neg (show ¬ ahB l i j = true by simp [ahB,p1,p2]),if_neg p1,if_neg p2];omega
    · have e2 : min (j + 1) i = min j i:=by omega
      rw [e2]
      by_cases p1 : rd l (j : Int) < rd l (i : Int)
      · rw [if_pos (show ahB l i j = true by simp [ahB,p1]),if_pos p1];omega
      · rw [if_neg (show ¬ ahB l i j = true by simp [ahB,p1,hji]),if_neg p1];omega
/-- The rank of i. -/
def rk (l : List Int) (i : Nat) : Nat:=rkTo l i l.length
theorem rk_eq (l : List Int) (i : Nat) (hi : i < l.length) : rk l i = cle (rd l (i : Int) - 1) l + eqc (rd l (i : Int)) (l.take i):=by
  unfold rk
  rw [rkTo_eq l i _ (Nat.le_refl _),List.take_length,show min l.length i = i by omega]
theorem eqc_take (v : Int) (l : List Int) (i : Nat) (hi : i < l.length) (h : l[i] = v) : eqc v (l.take i) < eqc v l:=by
  have e : eqc v l = eqc v (l.take (i + 1)) + eqc v (l.drop (i + 1)):=by unfold eqc;rw [← List.countP_append,List.take_append_drop]
  have e2 : eqc v (l.take (i + 1)) = eqc v (l.take i) + 1:=by
    unfold eqc
    rw [List.take_succ_eq_append_getElem hi,List.countP_append,List.countP_cons_of_pos (by simpa using h)]
    rfl
  omega
/-- Who has so many ahead is the value that stands there. -/
theorem rk_srt (l : List Int) (i at' : Nat) (hi : i < l.length) (h : rk l i = at') (ha : at' < l.length) : rd l (i : Int) = srt l at':=by
  have e:=rk_eq l i hi
  have h1:=eqc_take (rd l (i : Int)) l i hi (rdg l i hi).symm
  have h2:=cle_split (rd l (i : Int)) l
  exact (srt_eq l at' _ ha (by omega) (by omega)).symm
theorem nth_eq (v : Int) : ∀ (l : List Int) (m : Nat),m < eqc v l→∃ i,∃ (h : i < l.length),l[i] = v∧eqc v (l.take i) = m
  | [],m,h=>absurd h (by simp [eqc])
  | x::t,m,h=>by
    by_cases hx : x = v
    · cases m with
      | zero=>exact ⟨0,by simp,by simpa using hx,by simp [eqc]⟩
      | succ m =>
        have e : eqc v (x::t) = eqc v t + 1:=by unfold eqc;rw [List.countP_cons_of_pos (by simpa using hx)]
        obtain ⟨i,hi,h1,h2⟩:=nth_eq v t m (by omega)
        refine ⟨i + 1,by simpa using hi,by simpa using h1,?_⟩
        rw [List.take_succ_cons]
        unfold eqc at h2 ⊢
        rw [List.countP_cons_of_pos (by simpa using hx),h2]
    · have e : eqc v (x::t) = eqc v t:=by unfold eqc;rw [List.countP_cons_of_neg (by simpa using hx)]
      obtain ⟨i,hi,h1,h2⟩:=nth_eq v t m (by omega)
      refine ⟨i + 1,by simpa using hi,by simpa using h1,?_⟩
      rw [List.take_succ_cons]
      unfold eqc at h2 ⊢
      rw [List.countP_cons_of_neg (by simpa using hx),h2]
/-- Each rank is somebody's. -/
theorem rk_some (l : List Int) (at' : Nat) (ha : at' < l.length) : ∃ i,i < l.length∧rk l i = at':=by
  have c1:=(srt_le l at' ha (srt l at')).1 (Int.le_refl _)
  have c2 : cle (srt l at' - 1) l ≤ at':=by
    rcases Nat.lt_or_ge at' (cle (srt l at' - 1) l) with h|h
    · have:=(srt_le l at' ha _).2 h
      omega
    · exact h
  have c3:=cle_split (srt l at') l
  obtain ⟨i,hi,h1,h2⟩:=nth_eq (srt l at') l (at' - cle (srt l at' - 1) l) (by omega)
  have h3 : rd l (i : Int) = srt l at':=by rw [rdg l i hi,h1]
  refine ⟨i,hi,?_⟩
  rw [rk_eq l i hi,h3,h2]
  omega
theorem at_inner (l : List Int) (hl : l.length ≤ 50) (at' : Int) (i : Nat) (hi : i < l.length) : ∀ (d k j : Nat),j + d = l.length →
    vespersref14_At.l1 (k + d + 1) l at' (i : Int) (rkTo l i j : Nat) (j : Int) = if ((rk l i : Nat) : Int) = at' then some (rd l (i : Int)) else vespersref14_At.l0 k l at' ((i + 1 : Nat) : Int):=by
  intro d
  induction d with
  | zero =>
    intro k j hj
    obtain rfl : j = l.length:=by omega
    simp only [vespersref14_At.l1]
    rw [if_neg (by omega),wrap_id (x:=(i : Int) + 1) (by omega) (by omega),show (i : Int) + 1 = ((i + 1 : Nat) : Int) by omega,show rkTo l i l.length = rk l i from rfl]
    by_cases hr : ((rk l i : Nat) : Int) = at'
    · rw [if_pos hr,if_pos hr,if_pos (by omega),if_pos (by omega)]
    · rw [if_neg hr,if_neg hr]
  | succ d ih =>
    intro k j hj
    have i1:=ih k (j + 1) (by omega)
    have hle:=rkTo_le l i j
    unfold rkTo at i1
    rw [show k + (d + 1) + 1 = (k + d + 1) + 1 by omega]
    generalize k + d + 1 = K at i1 ⊢
    simp only [vespersref14_At.l1]
    rw [if_pos (by omega),if_pos (by omega),if_pos (by omega),if_pos (by omega),wrap_id (x:=(j : Int) + 1) (by omega) (by omega),wrap_id (x:=((rkTo l i j : Nat) : Int) + 1) (by omega) (by omega),show (j : Int) + 1 = ((j + 1 : Nat) : Int) by omega]
    by_cases p1 : rd l (j : Int) < rd l (i : Int)
    · rw [if_pos (by simp [ahB,p1])] at i1
      rw [if_pos p1]
      exact i1
    · rw [if_neg p1]
      by_cases p2 : rd l (j : Int) = rd l (i : Int)
      · rw [if_pos p2]
        by_cases p3 : j < i
        · rw [if_pos (by simp [ahB,p2,p3])] at i1
          rw [if_pos (by omega)]
          exact i1
        · rw [if_neg (by simp [ahB,p1,p3])] at i1
          rw [if_neg (by omega)]
          exact i1
      · rw [if_neg (by simp [ahB,p1,p2])] at i1
        rw [if_neg p2]
        exact i1
theorem at_outer (l : List Int) (hl : l.length ≤ 50) (at' : Nat) (ha : at' < l.length) : ∀ (d k i : Nat),i + d = l.length→(d + 1) * (l.length + 2) ≤ k→(∃ j,i ≤ j∧j < l.length∧rk l j = at')→vespersref14_At.l0 k l (at' : Int) (i : Int) = some (srt l at'):=by
  intro d
  induction d with
  | zero =>
    intro k i hi hk ⟨j,h1,h2,_⟩
    omega
  | succ d ih =>
    intro k i hi hk ⟨j,h1,h2,h3⟩
    have hk2 : (d + 1) * (l.length + 2) + (l.length + 2) ≤ k:=by rw [← Nat.succ_mul];exact hk
    obtain ⟨m,rfl⟩ : ∃ m,k = (m + l.length + 1) + 1:=⟨k - (l.length + 2),by omega⟩
    simp only [vespersref14_At.l0]
    rw [if_pos (by omega)]
    have:=at_inner l hl (at' : Int) i (by omega) l.length m 0 (by omega)
    rw [show (((rkTo l i 0 : Nat)) : Int) = 0 from rfl,show ((0 : Nat) : Int) = 0 from rfl] at this
    rw [this]
    by_cases hr : rk l i = at'
    · rw [if_pos (by omega),rk_srt l i at' (by omega) hr ha]
    · rw [if_neg (by omega)]
      refine ih m (i + 1) (by omega) (by omega) ⟨j,?_,h2,h3⟩
      rcases Nat.lt_or_ge i j with h|h
      · exact h
      · obtain rfl : i = j:=by omega
        exact absurd h3 hr
theorem At_eq (l : List Int) (hl : l.length ≤ 50) (at' : Nat) (ha : at' < l.length) (k : Nat) (hk : 3000 ≤ k) : vespersref14_At.f k l (at' : Int) = some (srt l at'):=by
  obtain ⟨i,hi,h⟩:=rk_some l at' ha
  unfold vespersref14_At.f
  have h1 : l.length + 1 ≤ 51:=by omega
  have h2 : l.length + 2 ≤ 52:=by omega
  have:=Nat.mul_le_mul h1 h2
  exact at_outer l hl at' ha l.length k 0 (by omega) (by omega) ⟨i,by omega,hi,h⟩
theorem check_loop (l : List Int) (hl : l.length ≤ 50) : ∀ (d k i : Nat),i + d = l.length→d < k→vespersref14_Check.l0 k l (i : Int) = some (if (l.drop i).any wildB = true then 140 else 0):=by
  intro d
  induction d with
  | zero =>
    intro k i hi hk
    obtain ⟨k,rfl⟩ : ∃ m,k = m + 1:=⟨k - 1,by omega⟩
    simp only [vespersref14_Check.l0]
    rw [if_neg (by omega),List.drop_of_length_le (by omega)]
    rfl
  | succ d ih =>
    intro k i hi hk
    obtain ⟨k,rfl⟩ : ∃ m,k = m + 1:=⟨k - 1,by omega⟩
    have hlt : i < l.length:=by omega
    simp only [vespersref14_Check.l0]
    rw [if_pos (by omega),if_pos (by omega),List.drop_eq_getElem_cons hlt,List.any_cons,rdg l i hlt]
    by_cases p1 : l[i] < -4294967296
    · rw [if_pos p1,show wildB l[i] = true by simp [wildB,p1]]
      rfl
    rw [if_neg p1]
    by_cases p2 : l[i] > 4294967296
    · rw [if_pos p2,show wildB l[i] = true by simp [wildB,p2]]
      rfl
    rw [if_neg p2,wrap_id (x:=(i : Int) + 1) (by omega) (by omega),show (i : Int) + 1 = ((i + 1 : Nat) : Int) by omega,ih k (i + 1) (by omega) (by omega),show wildB l[i] = false by simp [wildB];omega,Bool.false_or]
theorem check_good {l : List Int} {n : Nat} (G : GoodM l n) (hl : l.length ≤ 50) (k : Nat) (hk : 100 ≤ k) : vespersref14_Check.f k l (n : Int) = some 0:=by
  have hr:=G.room
  obtain ⟨m,rfl⟩ : ∃ m,k = m + 1:=⟨k - 1,by omega⟩
  unfold vespersref14_Check.f
  rw [if_neg (by omega),if_neg (by omega),if_neg (by omega),wrap_id (x:=2 * (n : Int)) (by omega) (by omega),wrap_id (x:=2 * (n : Int) + 1) (by omega) (by omega),decide_eq_false (by omega)]
  simp only [vespersref14_Check.j0]
  rw [if_neg (by decide)]
  have:=check_loop l hl l.length m 0 (by omega) (by omega)
  rw [show ((0 : Nat) : Int) = 0 from rfl] at this
  rw [this,List.drop_zero,G.any]
  rfl
theorem check_bad {l : List Int} {a : Int} (hl : l.length ≤ 50) (h : ∀ n : Nat,a = (n : Int)→¬ GoodM l n) (k : Nat) (hk : 100 ≤ k) : vespersref14_Check.f k l a = some 140:=by
  obtain ⟨m,rfl⟩ : ∃ m,k = m + 1:=⟨k - 1,by omega⟩
  have bad : vespersref14_Check.j0 (m + 1) l true = some 140:=by
    simp only [vespersref14_Check.j0]
    rw [if_pos trivial]
  unfold vespersref14_Check.f
  by_cases h1 : a < 0
  · rw [if_pos h1];exact bad
  rw [if_neg h1]
  by_cases h2 : (l.length : Int) < 1
  · rw [if_pos h2];exact bad
  rw [if_neg h2]
  by_cases h3 : a > (l.length : Int)
  · rw [if_pos h3];exact bad
  rw [if_neg h3,wrap_id (x:=2 * a) (by omega) (by omega),wrap_id (x:=2 * a + 1) (by omega) (by omega)]
  by_cases h4 : 2 * a + 1 > (l.length : Int)
  · rw [decide_eq_true h4];exact bad
  rw [decide_eq_false h4]
  simp only [vespersref14_Check.j0]
  rw [if_neg (by decide)]
  have:=check_loop l hl l.length m 0 (by omega) (by omega)
  rw [show ((0 : Nat) : Int) = 0 from rfl] at this
  rw [this,List.drop_zero]
  cases hw : l.any wildB with
  | true=>rfl
  | false =>
    exfalso
    refine h a.toNat (by omega) ⟨by omega,by omega,fun x hx=>?_⟩
    have hx2:=List.any_eq_false.1 hw x hx
    simp [wildB] at hx2
    omega
theorem half_eq (s : Int) (h0 : -9000000000 ≤ s) (h1 : s ≤ 9000000000) : (if (wrap64 (2 * (wrap64 (Int.tdiv (wrap64 s) 2)))) > (wrap64 s) then (some (wrap64 ((wrap64 (Int.tdiv (wrap64 s) 2)) - 1),(0 : Int))) else (some (wrap64 (Int.tdiv (wrap64 s) 2),0))) = some (s / 2,0):=by
  rw [wrap_id (x:=s) (by omega) (by omega)]
  have ht : Int.tdiv s 2 = if 0 ≤ s then s / 2 else -((-s) / 2):=by
    split
    · exact Int.tdiv_eq_ediv_of_nonneg (by omega)
    · have : s = -(-s):=by omega
      rw [this,Int.neg_tdiv,Int.tdiv_eq_ediv_of_nonneg (by omega),← this]
  generalize Int.tdiv s 2 = q at ht ⊢
  have hq : -4500000000 ≤ q∧q ≤ 4500000000:=by split at ht <;> omega
  rw [wrap_id (x:=q) (by omega) (by omega),wrap_id (x:=2 * q) (by omega) (by omega),wrap_id (x:=q - 1) (by omega) (by omega)]
  by_cases h : 2 * q > s
  · rw [if_pos h];congr 2;split at ht <;> omega
  · rw [if_neg h];congr 2;split at ht <;> omega
theorem rOf_good {l : List Int} {n : Nat} (G : GoodM l n) (hl : l.length ≤ 50) (k : Nat) (hk : 3000 ≤ k) : vespersref14_Of.f k l (n : Int) = some ((srt l n + srt l (l.length - 1 - n)) / 2,0):=by
  have hr:=G.room
  have f1:=srt_fine G n (by omega)
  have f2:=srt_fine G (l.length - 1 - n) (by omega)
  unfold vespersref14_Of.f
  rw [check_good G hl k (by omega),Option.bind_some,if_pos rfl,At_eq l hl n (by omega) k (by omega),Option.bind_some,wrap_id (x:=(l.length : Int) - 1) (by omega) (by omega),wrap_id (x:=(l.length : Int) - 1 - (n : Int)) (by omega) (by omega),show (l.length : Int) - 1 - (n : Int) = ((l.length - 1 - n : Nat) : Int) by omega,At_eq l hl (l.length - 1 - n) (by omega) k (by omega),Option.bind_some]
  exact half_eq _ (by omega) (by omega)
theorem rOf_bad {l : List Int} {a : Int} (hl : l.length ≤ 50) (h : ∀ n : Nat,a = (n : Int)→¬ GoodM l n) (k : Nat) (hk : 100 ≤ k) : vespersref14_Of.f k l a = some (0,140):=by
  unfold vespersref14_Of.f
  rw [check_bad hl h k hk,Option.bind_some]
  rfl
end Go.Proofs.Ytnmephdamgofnaa.Mid
/- Plain facts: the document's correction, turn and fold answer as resync's. -/
set_option linter.unusedVariables false
set_option linter.unusedSimpArgs false
namespace Go.Proofs.Ytnmephdamgofnaa.Mid
open Go.RowKit Go.Proofs.Ytnmephdamgofnaa.Hand Go.Proofs.Ytnmephdamgofnaa.PA Go.Proofs.Ytnmephdamgofnaa.PB Go.Proofs.YtnmephdamgofnaaW.PrintWords Go.Proofs.YtnmephdamgofnaaW.PrintMore

/-- What the correction is, of any plan and values. -/
def corrC (p : Pl) (l : List Int) (b : Bool) : Int × Int:=if b = true then corrP p l else (0,150)
theorem fine_cons (x : Int) (l : List Int) : fineB (x::l) = (decide (-4294967296 ≤ x∧x ≤ 4294967296) && fineB l):=rfl
theorem rcorr_l0 (p : Pl) (hp : planOk p) (l : List Int) (hl : l.length ≤ 50) : ∀ (d i k : Nat),i + d = l.length→d + 4000 < k→fineB l = fineB (l.drop i)→vespersref15_Correction.l0 k l (i : Int) p.a0 p.a1 p.a2 p.a3 p.a4 p.a5 p.a6 p.a7 p.a8 p.a9 p.a10 p.a11 p.a12 p.a13 p.a14 p.a15 = some (corrC p l (fineB l)):=by
  have hk1:=ok_k p hp
  have hcap:=ok_cap p hp
  intro d
  induction d with
  | zero =>
    intro i k hi hk hpre
    obtain ⟨k,rfl⟩ : ∃ j,k = j + 1:=⟨k - 1,by omega⟩
    obtain rfl : i = l.length:=by omega
    have hf : fineB l = true:=by rw [hpre,List.drop_length];rfl
    simp only [vespersref15_Correction.l0]
    rw [if_neg (by omega),wrap_id (x:=2 * p.a1) (by omega) (by omega),hf]
    unfold corrC
    rw [if_pos rfl]
    unfold corrP
    by_cases h : (l.length : Int) ≤ 2 * p.a1
    · rw [if_pos h,if_neg (by omega)]
    rw [if_neg h,if_pos (show 2 * p.a1 + 1 ≤ (l.length : Int) by omega)]
    have hOf:=rOf_good (good_of p hp l (by omega) hf (by omega)) hl k (by omega)
    rw [show ((p.a1.toNat : Nat) : Int) = p.a1 by omega,show (srt l p.a1.toNat + srt l (l.length - 1 - p.a1.toNat)) / 2 = midP p l from rfl] at hOf
    have hm:=midP_in p hp l (by omega) hf (by omega)
    rw [hOf,Option.bind_some]
    generalize midP p l = m at hm ⊢
    simp only []
    by_cases c1 : m > p.a10
    · rw [if_pos c1,if_pos (.inl c1)]
    rw [if_neg c1,wrap_id (x:=-p.a10) (by omega) (by omega)]
    by_cases c2 : m < -p.a10
    · rw [if_pos c2,if_pos (.inr (by omega))]
    rw [if_neg c2,if_neg (by omega),wrap_id (x:=-m) (by omega) (by omega)]
  | succ d ih =>
    intro i k hi hk hpre
    obtain ⟨k,rfl⟩ : ∃ j,k = j + 1:=⟨k - 1,by omega⟩
    have hil : i < l.length:=by omega
    simp only [vespersref15_Correction.l0]
    rw [List.drop_eq_getElem_cons hil,fine_cons] at hpre
    rw [if_pos (by omega),if_pos (by omega),rdg l i hil]
    by_cases c1 : l[i] < -4294967296
    · rw [decide_eq_false (by omega),Bool.false_and] at hpre
      rw [if_pos c1,hpre];rfl
    rw [if_neg c1]
    by_cases c2 : l[i] > 4294967296
    · rw [decide_eq_false (by omega),Bool.false_and] at hpre
      rw [if_pos c2,hpre];rfl
    rw [decide_eq_true (by omega),Bool.true_and] at hpre
    rw [if_neg c2,wrap_id (x:=(i : Int) + 1) (by omega) (by omega),show (i : Int) + 1 = ((i + 1 : Nat) : Int) by omega]
    exact ih (i + 1) k (by omega) (by omega) hpre
theorem both_corr (p : Pl) (h0 : -9223372036854775808 ≤ p.a0∧p.a0 ≤ 9223372036854775807) (l : List Int) (hl : l.length ≤ 50) : ∃ c : Int × Int,(∀ k,5000 ≤ k→resync_Correction.f k p.a0 p.a1 p.a2 p.a3 p.a4 p.a5 p.a6 p.a7 p.a8 p.a9 p.a10 p.a11 p.a12 p.a13 p.a14 p.a15 l = some c)∧(∀ k,5000 ≤ k→vespersref15_Correction.f k p.a0 p.a1 p.a2 p.a3 p.a4 p.a5 p.a6 p.a7 p.a8 p.a9 p.a10 p.a11 p.a12 p.a13 p.a14 p.a15 l = some c):=by
  by_cases hp : planOk p
  · refine ⟨corrC p l (fineB l),fun k hk=>?_,fun k hk=>?_⟩
    · cases hf : fineB l with
      | true=>exact corr_ok p hp l (by omega) hf k (by omega)
      | false=>exact corr_bad p l (by omega) (fun q=>by rw [hf] at q;exact absurd q.2 (by decide)) k (by omega)
    · unfold vespersref15_Correction.f
      rw [ref_check_ok p h0 hp k (by omega),Option.bind_some,if_pos rfl]
      exact rcorr_l0 p hp l hl l.length 0 k (by omega) (by omega) rfl
  · refine ⟨(0,150),fun k hk=>corr_bad p l (by omega) (fun q=>hp q.1) k (by omega),fun k hk=>?_⟩
    unfold vespersref15_Correction.f
    rw [ref_check_no p h0 hp k (by omega),Option.bind_some,if_neg (by decide)]
theorem rmay_eq (a b c : Int) (d : Bool) : vespersref15_may.f a b c d = some (mayB a b c d):=by
  unfold vespersref15_may.f mayB
  by_cases c1 : a < 0
  · rw [if_pos c1];congr 1;exact (decide_eq_false (by omega)).symm
  rw [if_neg c1]
  by_cases c2 : a > 2147483647
  · rw [if_pos c2];congr 1;exact (decide_eq_false (by omega)).symm
  rw [if_neg c2]
  by_cases c3 : b < 0
  · rw [if_pos c3];congr 1;exact (decide_eq_false (by omega)).symm
  rw [if_neg c3]
  by_cases c4 : b > a
  · rw [if_pos c4];congr 1;exact (decide_eq_false (by omega)).symm
  rw [if_neg c4]
  by_cases c5 : c ≤ 4294967296
  · rw [if_pos c5];congr 1;exact decide_eq_decide.2 ⟨fun h=>by omega,fun h=>by omega⟩
  · rw [if_neg c5];congr 1;exact (decide_eq_false (by omega)).symm
theorem rj2_eq (k : Nat) (x a b t : Int) (e : Bool) : vespersref15_Turn.j2 (k + 1) x e a b t false = some (if mayB a (if e = true then wrap64 (b + 1) else b) t false = true then (a,(if e = true then wrap64 (b + 1) else b),t,false,x,0) else (0,0,0,false,0,150)):=by
  simp only [vespersref15_Turn.j2]
  cases e with
  | true =>
    simp only [if_true,rmay_eq,Option.bind_some]
    split <;> rfl
  | false =>
    simp only [Bool.false_eq_true,if_false,rmay_eq,Option.bind_some]
    split <;> rfl
theorem rturn_eq (p : Pl) (a b t : Int) (d : Bool) (l : List Int) (c : Int × Int) (k : Nat) (hc : vespersref15_Correction.f (k + 4) p.a0 p.a1 p.a2 p.a3 p.a4 p.a5 p.a6 p.a7 p.a8 p.a9 p.a10 p.a11 p.a12 p.a13 p.a14 p.a15 l = some c) : vespersref15_Turn.f (k + 4) p.a0 p.a1 p.a2 p.a3 p.a4 p.a5 p.a6 p.a7 p.a8 p.a9 p.a10 p.a11 p.a12 p.a13 p.a14 p.a15 a b t d l = some (turnC c a b t d):=by
  unfold vespersref15_Turn.f turnC
  rw [hc,Option.bind_some,rmay_eq,Option.bind_some]
  by_cases h : c.2 = 150
  · rw [if_pos h,if_pos (.inl h)]
    simp only [vespersref15_Turn.j0,if_true]
  rw [if_neg h]
  cases hm : mayB a b t d with
  | false=>rw [if_pos (.inr rfl)];simp only [vespersref15_Turn.j0,Bool.not_false,if_true]
  | true =>
    rw [if_neg (by simp [h])]
    simp only [vespersref15_Turn.j0,Bool.not_true,Bool.false_eq_true,if_false]
    cases d with
    | true =>
      rw [if_pos rfl,if_pos (.inr rfl)]
      simp only [vespersref15_Turn.j1,if_true]
    | false =>
      rw [if_neg (by decide)]
      by_cases h1 : c.2 = 151
      · rw [if_pos (.inl h1),show (c.2 == 151) = true by simp [h1]]
        simp only [vespersref15_Turn.j1,if_true]
      rw [if_neg (by simp [h1]),show (c.2 == 151) = false by simp [h1]]
      simp only [vespersref15_Turn.j1,Bool.false_eq_true,if_false]
      by_cases z : c.1 = 0
      · rw [if_neg (by omega),decide_eq_false (by omega),rj2_eq,if_pos z]
        simp only [Bool.false_eq_true,if_false]
      · by_cases g : c.1 > 0
        · rw [if_pos g,rj2_eq,if_neg z]
          simp only [if_true]
        · rw [if_neg g,decide_eq_true (by omega),rj2_eq,if_neg z]
          simp only [if_true]
theorem both_turn (p : Pl) (h0 : -9223372036854775808 ≤ p.a0∧p.a0 ≤ 9223372036854775807) (a b t : Int) (d : Bool) (l : List Int) (hl : l.length ≤ 50) : ∃ c : RF,(∀ k,6000 ≤ k→resync_Turn.f k p.a0 p.a1 p.a2 p.a3 p.a4 p.a5 p.a6 p.a7 p.a8 p.a9 p.a10 p.a11 p.a12 p.a13 p.a14 p.a15 a b t d l = some c)∧(∀ k,6000 ≤ k→vespersref15_Turn.f k p.a0 p.a1 p.a2 p.a3 p.a4 p.a5 p.a6 p.a7 p.a8 p.a9 p.a10 p.a11 p.a12 p.a13 p.a14 p.a15 a b t d l = some c):=by
  obtain ⟨c,h1,h2⟩:=both_corr p h0 l hl
  refine ⟨turnC c a b t d,fun k hk=>?_,fun k hk=>?_⟩
  · obtain ⟨k,rfl⟩ : ∃ j,k = j + 2:=⟨k - 2,by omega⟩
    exact turn_eq p a b t d l c k (h1 _ (by omega))
  · obtain ⟨k,rfl⟩ : ∃ j,k = j + 4:=⟨k - 4,by omega⟩
    exact rturn_eq p a b t d l c k (h2 _ (by omega))
end Go.Proofs.Ytnmephdamgofnaa.Mid
/- The plain law of ResyncTurns. -/
set_option linter.unusedVariables false
set_option linter.unusedSimpArgs false
namespace Go.Proofs.Ytnmephdamgofnaa.Mid
open Go.RowKit Go.Proofs.Ytnmephdamgofnaa.Hand Go.Proofs.Ytnmephdamgofnaa.PA Go.Proofs.Ytnmephdamgofnaa.PB Go.Proofs.Ytnmephdamgofnaa.PR Go.Proofs.YtnmephdamgofnaaW.PrintWords Go.Proofs.YtnmephdamgofnaaW.PrintMore

theorem rdL2_get (ls : List (List Int)) (i : Nat) (h : i < ls.length) : Go.Proofs.Ytnmephdamgofnaa.PR.rd_L2 ls (i : Int) = ls[i]:=by
  unfold Go.Proofs.Ytnmephdamgofnaa.PR.rd_L2
  rw [Int.toNat_natCast,List.getD_eq_getElem?_getD,List.getElem?_eq_getElem h]
  rfl
theorem both_fold (p : Pl) (h0 : -9223372036854775808 ≤ p.a0∧p.a0 ≤ 9223372036854775807) (ls : List (List Int)) (hn : ls.length ≤ 20) (hls : ∀ i : Nat,(h : i < ls.length)→ls[i].length ≤ 50) (K : Nat) (hK : 6000 ≤ K) :
    ∀ (d i k : Nat) (s : TS),i + d = ls.length→d + 6100 < k→∃ r : TS × Int,foldG (turnP K p) (ls.drop i) s = some r∧Go.Proofs.Ytnmephdamgofnaa.PR.vespersref15_Fold.l0 k ls (i : Int) p.a0 p.a1 p.a2 p.a3 p.a4 p.a5 p.a6 p.a7 p.a8 p.a9 p.a10 p.a11 p.a12 p.a13 p.a14 p.a15 s.1 s.2.1 s.2.2.1 s.2.2.2 = some (r.1.1,r.1.2.1,r.1.2.2.1,r.1.2.2.2,r.2):=by
  intro d
  induction d with
  | zero =>
    intro i k s hi hk
    obtain ⟨k,rfl⟩ : ∃ j,k = j + 1:=⟨k - 1,by omega⟩
    obtain rfl : i = ls.length:=by omega
    refine ⟨(s,0),by rw [List.drop_length];rfl,?_⟩
    simp only [Go.Proofs.Ytnmephdamgofnaa.PR.vespersref15_Fold.l0]
    rw [if_neg (by omega)]
  | succ d ih =>
    intro i k s hi hk
    obtain ⟨k,rfl⟩ : ∃ j,k = j + 1:=⟨k - 1,by omega⟩
    have hil : i < ls.length:=by omega
    obtain ⟨c,h1,h2⟩:=both_turn p h0 s.1 s.2.1 s.2.2.1 s.2.2.2 ls[i] (hls i hil)
    simp only [Go.Proofs.Ytnmephdamgofnaa.PR.vespersref15_Fold.l0]
    rw [if_pos (by omega),if_pos (by omega),rdL2_get ls i hil,h2 k (by omega),Option.bind_some,List.drop_eq_getElem_cons hil]
    simp only [foldG]
    rw [show turnP K p s ls[i] = some c from h1 K hK,Option.bind_some]
    by_cases hc : c.2.2.2.2.2 = 0
    · rw [if_pos hc,if_pos hc,wrap_id (x:=(i : Int) + 1) (by omega) (by omega),show (i : Int) + 1 = ((i + 1 : Nat) : Int) by omega]
      exact ih (i + 1) k (c.1,c.2.1,c.2.2.1,c.2.2.2.1) (by omega) (by omega)
    · rw [if_neg hc,if_neg hc]
      exact ⟨_,rfl,rfl⟩
section
variable (p : Pl) (h0 : -9223372036854775808 ≤ p.a0∧p.a0 ≤ 9223372036854775807) (l2 : List Int) (hl2 : l2.length ≤ 50) (many : Int)
include h0 hl2
theorem turns_l1 (c1 c2 : Int) (t1 t2 f1 : Int) (ta tb tc : Int) (td : Bool) (fa fb fc : Int) (fd : Bool) : ∀ (d i k : Nat),i + d = l2.length→d + 100 < k →
    vesperslaw15_ResyncTurns.l1 k l2 many l2 c1 c2 c1 c2 t1 t2 t1 t2 f1 f1 (l2.length : Int) (i : Int) p.a0 p.a1 p.a2 p.a3 p.a4 p.a5 p.a6 p.a7 p.a8 p.a9 p.a10 p.a11 p.a12 p.a13 p.a14 p.a15 ta tb tc td ta tb tc td fa fb fc fd fa fb fc fd = some true:=by
  intro d
  induction d with
  | zero =>
    intro i k hi hk
    obtain ⟨k,rfl⟩ : ∃ j,k = j + 1:=⟨k - 1,by omega⟩
    simp only [vesperslaw15_ResyncTurns.l1]
    rw [if_neg (by omega)]
    by_cases hp : planOk p
    · have hk1:=ok_k p hp
      rw [ref_check_ok p h0 hp k (by omega),Option.bind_some,if_pos rfl]
      simp only [beq_self_eq_true,Bool.and_self,if_true]
      unfold resync_Enough.f
      rw [check_ok p hp,Option.bind_some,if_pos rfl,Option.bind_some,wrap_id (x:=2 * p.a1) (by omega) (by omega),wrap_id (x:=2 * p.a1 + 1) (by omega) (by omega)]
      congr 1
      rw [beq_iff_eq]
      exact decide_eq_decide.2 ⟨fun h=>by omega,fun h=>by omega⟩
    · rw [ref_check_no p h0 hp k (by omega),Option.bind_some,if_neg (by decide)]
      simp only [beq_self_eq_true,Bool.and_self,if_true]
      unfold resync_Enough.f
      rw [check_no p hp,Option.bind_some,if_neg (by decide),Option.bind_some]
      rfl
  | succ d ih =>
    intro i k hi hk
    obtain ⟨k,rfl⟩ : ∃ j,k = j + 1:=⟨k - 1,by omega⟩
    simp only [vesperslaw15_ResyncTurns.l1]
    rw [if_pos (by omega),if_pos (by omega),if_pos (by omega)]
    simp only [if_true]
    rw [if_pos (by omega),wrap_id (x:=(i : Int) + 1) (by omega) (by omega),show (i : Int) + 1 = ((i + 1 : Nat) : Int) by omega]
    exact ih (i + 1) k (by omega) (by omega)
theorem turns_l0 (l3 : List (List Int)) (hl3 : l3.length ≤ 20) (a b t : Int) (v : Bool) : ∀ (d i k : Nat),i + d = l3.length→d + 8000 < k→(∀ j : Nat,(h : j < l3.length)→j < i→l3[j].length ≤ 50) →
    vesperslaw15_ResyncTurns.l0 k l2 l3 many (l3.length : Int) (i : Int) p.a0 p.a1 p.a2 p.a3 p.a4 p.a5 p.a6 p.a7 p.a8 p.a9 p.a10 p.a11 p.a12 p.a13 p.a14 p.a15 a b t v = some true:=by
  intro d
  induction d with
  | zero =>
    intro i k hi hk hall
    obtain ⟨k,rfl⟩ : ∃ j,k = j + 1:=⟨k - 1,by omega⟩
    simp only [vesperslaw15_ResyncTurns.l0]
    rw [if_neg (by omega),Option.bind_some,if_pos (by simp;omega),Option.bind_some,List.nil_append]
    obtain ⟨c,hc1,hc2⟩:=both_corr p h0 l2 hl2
    obtain ⟨u,hu1,hu2⟩:=both_turn p h0 a b t v l2 hl2
    obtain ⟨r,hr1,hr2⟩:=both_fold p h0 l3 hl3 (fun j h=>hall j h (by omega)) k (by omega) l3.length 0 k (0,0,0,false) (by omega) (by omega)
    have hf1 : resync_Fold.f k p.a0 p.a1 p.a2 p.a3 p.a4 p.a5 p.a6 p.a7 p.a8 p.a9 p.a10 p.a11 p.a12 p.a13 p.a14 p.a15 l3 = some (r.1.1,r.1.2.1,r.1.2.2.1,r.1.2.2.2,r.2):=by unfold resync_Fold.f;rw [if_pos (by omega),show foldG (turnP k ⟨p.a0,p.a1,p.a2,p.a3,p.a4,p.a5,p.a6,p.a7,p.a8,p.a9,p.a10,p.a11,p.a12,p.a13,p.a14,p.a15⟩) l3 (0,0,0,false) = some r from hr1];rfl
    have hf2 : Go.Proofs.Ytnmephdamgofnaa.PR.vespersref15_Fold.f k p.a0 p.a1 p.a2 p.a3 p.a4 p.a5 p.a6 p.a7 p.a8 p.a9 p.a10 p.a11 p.a12 p.a13 p.a14 p.a15 l3 = some (r.1.1,r.1.2.1,r.1.2.2.1,r.1.2.2.2,r.2):=hr2
    rw [hc1 k (by omega),Option.bind_some,hc2 k (by omega),Option.bind_some,hu1 k (by omega),Option.bind_some,hu2 k (by omega),Option.bind_some,hf1,Option.bind_some,hf2,Option.bind_some]
    exact turns_l1 p h0 l2 hl2 many _ _ _ _ _ _ _ _ _ _ _ _ _ l2.length 0 k (by omega) (by omega)
  | succ d ih =>
    intro i k hi hk hall
    obtain ⟨k,rfl⟩ : ∃ j,k = j + 1:=⟨k - 1,by omega⟩
    have hil : i < l3.length:=by omega
    simp only [vesperslaw15_ResyncTurns.l0]
    rw [if_pos (by omega),if_pos (by omega),if_pos (by omega),rdL2_get l3 i hil]
    by_cases hr : (l3[i].length : Int) > 50
    · rw [if_pos hr]
    rw [if_neg hr,wrap_id (x:=(i : Int) + 1) (by omega) (by omega),show (i : Int) + 1 = ((i + 1 : Nat) : Int) by omega]
    refine ih (i + 1) k (by omega) (by omega) (fun j h hj=>?_)
    by_cases e : j = i
    · subst e;omega
    · exact hall j h (by omega)
end
theorem ResyncTurns (p : Pl) (h0 : -9223372036854775808 ≤ p.a0∧p.a0 ≤ 9223372036854775807) (a b t : Int) (v : Bool) (l2 : List Int) (l3 : List (List Int)) (many : Int) : vesperslaw15_ResyncTurns.f 9000 p.a0 p.a1 p.a2 p.a3 p.a4 p.a5 p.a6 p.a7 p.a8 p.a9 p.a10 p.a11 p.a12 p.a13 p.a14 p.a15 a b t v l2 l3 many = some true:=by
  unfold vesperslaw15_ResyncTurns.f
  by_cases h1 : (l2.length : Int) > 50
  · rw [if_pos h1];simp only [vesperslaw15_ResyncTurns.j0,if_true]
  rw [if_neg h1]
  by_cases h2 : (l3.length : Int) > 20
  · rw [decide_eq_true h2];simp only [vesperslaw15_ResyncTurns.j0,if_true]
  rw [decide_eq_false h2]
  simp only [vesperslaw15_ResyncTurns.j0,Bool.false_eq_true,if_false]
  exact turns_l0 p h0 l2 (by omega) many l3 (by omega) a b t v l3.length 0 _ (by omega) (by omega) (fun j h hj=>absurd hj (by omega))
end Go.Proofs.Ytnmephdamgofnaa.Mid
namespace Go.Proofs.Ytnmephdamgofnaa.Pure
open Go.RowKit Go.Proofs.Ytnmephdamgofnaa.Hand Go.Proofs.Ytnmephdamgofnaa.PR Go.Proofs.Ytnmephdamgofnaa.Mid Go.Proofs.YtnmephdamgofnaaW.PrintWords
theorem ResyncTurns (a0_0 a0_1 a0_2 a0_3 a0_4 a0_5 a0_6 a0_7 a0_8 a0_9 Qa Qb Qc Qd Qe Qf a1_0 a1_1 a1_2 : Int) (a1_3 : Bool) (l2 : List Int) (l3 : List (List Int)) (a4 : Int) (w0_0 : (Lit.int .i64 a0_0).wf = true) (w0_1 : (Lit.int .i64 a0_1).wf = true) (w0_2 : (Lit.int .i64 a0_2).wf = true) (w0_3 : (Lit.int .i64 a0_3).wf = true) (w0_4 : (Lit.int .i64 a0_4).wf = true) (w0_5 : (Lit.int .i64 a0_5).wf = true) (w0_6 : (Lit.int .i64 a0_6).wf = true) (w0_7 : (Lit.int .i64 a0_7).wf = true) (w0_8 : (Lit.int .i64 a0_8).wf = true) (w0_9 : (Lit.int .i64 a0_9).wf = true) (w0_10 : (Lit.int .i64 Qa).wf = true) (w0_11 : (Lit.int .i64 Qb).wf = true) (w0_12 : (Lit.int .i64 Qc).wf = true) (w0_13 : (Lit.int .i64 Qd).wf = true) (w0_14 : (Lit.int .i64 Qe).wf = true) (w0_15 : (Lit.int .i64 Qf).wf = true) {X0 X1 X2 X3 X4 X5 X6 : Prop} (w1_0 : X0) (w1_1 : X1) (w1_2 : X2) (hm2 : X3) (y2 : X4) (hw2 : X5) (w4 : X6) : ∃ k,vesperslaw15_ResyncTurns.f k a0_0 a0_1 a0_2 a0_3 a0_4 a0_5 a0_6 a0_7 a0_8 a0_9 Qa Qb Qc Qd Qe Qf a1_0 a1_1 a1_2 a1_3 l2 l3 a4 = some true:=by
  have h:=wfi64 w0_0
  exact ⟨9000,Mid.ResyncTurns ⟨a0_0,a0_1,a0_2,a0_3,a0_4,a0_5,a0_6,a0_7,a0_8,a0_9,Qa,Qb,Qc,Qd,Qe,Qf⟩ (by first|exact h|omega) a1_0 a1_1 a1_2 a1_3 l2 l3 a4⟩
end Go.Proofs.Ytnmephdamgofnaa.Pure
/- Written by a program of this session (wip/jprint.py, over the printer of the kit): functions that a law comes to, as plain Lean functions, and walks; Lean checks it. -/
namespace Go.Proofs.Ytnmephdamgofnaa.resyncTurns
open Go.ChangeShapes Go.WideShapes Go.ChangeAt Go.RowKit Go.Joins Go.Deep Go.Proofs.YtnmephdamgofnaaW.PrintWords
open Go.ChangeMaps (open_string shut_string)
set_option linter.unusedVariables false
theorem own : ownKnob Try.prog.godebug = none:=by kernel_rfl
theorem laidOut : laidOutB Try.prog = true:=by kernel_rfl
def IsRow (k : IntKind) (w : World) (a : Option Addr) (len cap : Nat) (zs : List Int) : Prop :=
  (a = none∧len = 0∧cap = 0∧zs = []) ∨
  ∃ x,a = some x∧len ≤ cap∧cap ≤ maxLen∧zs.length = cap∧(∀ i,i < zs.length→w.cell? (x.add i) = some (.int k (zs.getD i 0)))∧∀ n ∈ zs,(Lit.int k n).wf = true
section
variable {H : Type} {enc : TypeId × Value→H} {P : Program} {w : World} {base : Nat} {spare : Nat→Bool} {held : Bool}
set_option maxRecDepth 100000 in
set_option maxHeartbeats 4000000 in
theorem open_agg16 {r : Reach} {b0 : Nat} {t : TypeId} {f0 f1 f2 f3 f4 f5 f6 f7 f8 f9 f10 f11 f12 f13 f14 f15 : Field} {v : Value} {d : DataW H} {p : List MemPlace} (hs : P.underlying t = some (.struct #[f0,f1,f2,f3,f4,f5,f6,f7,f8,f9,f10,f11,f12,f13,f14,f15])) (hone : oneCellFields P #[f0,f1,f2,f3,f4,f5,f6,f7,f8,f9,f10,f11,f12,f13,f14,f15] = true) (hC : P.cellsOf t = 16)
    (hv : Value.okWide P w r b0 t v) (h : DataW.Trod enc P w base spare held t v d p) :
    ∃ (v0 v1 v2 v3 v4 v5 v6 v7 v8 v9 v10 v11 v12 v13 v14 v15 : Value) (y0 y1 y2 y3 y4 y5 y6 y7 y8 y9 y10 y11 y12 y13 y14 y15 : DataW H × List MemPlace) (n : Nat),v = .agg #[v0,v1,v2,v3,v4,v5,v6,v7,v8,v9,v10,v11,v12,v13,v14,v15]∧d = .agg [y0.1,y1.1,y2.1,y3.1,y4.1,y5.1,y6.1,y7.1,y8.1,y9.1,y10.1,y11.1,y12.1,y13.1,y14.1,y15.1]∧p = y0.2++(y1.2++(y2.2++(y3.2++(y4.2++(y5.2++(y6.2++(y7.2++(y8.2++(y9.2++(y10.2++(y11.2++(y12.2++(y13.2++(y14.2++(y15.2))))))))))))))) ∧
      DataW.trod enc P w base spare held n f0.type [v0] = some y0∧DataW.trod enc P w base spare held n f1.type [v1] = some y1∧DataW.trod enc P w base spare held n f2.type [v2] = some y2∧DataW.trod enc P w base spare held n f3.type [v3] = some y3∧DataW.trod enc P w base spare held n f4.type [v4] = some y4∧DataW.trod enc P w base spare held n f5.type [v5] = some y5∧DataW.trod enc P w base spare held n f6.type [v6] = some y6∧DataW.trod enc P w base spare held n f7.type [v7] = some y7∧DataW.trod enc P w base spare held n f8.type [v8] = some y8∧DataW.trod enc P w base spare held n f9.type [v9] = some y9∧DataW.trod enc P w base spare held n f10.type [v10] = some y10∧DataW.trod enc P w base spare held n f11.type [v11] = some y11∧DataW.trod enc P w base spare held n f12.type [v12] = some y12∧DataW.trod enc P w base spare held n f13.type [v13] = some y13∧DataW.trod enc P w base spare held n f14.type [v14] = some y14∧DataW.trod enc P w base spare held n f15.type [v15] = some y15:=by
  obtain ⟨cs,rfl,hsz⟩:=okWide_struct hs hv
  obtain ⟨l⟩:=cs
  match l,hsz.trans hC with
  | [c0,c1,c2,c3,c4,c5,c6,c7,c8,c9,c10,c11,c12,c13,c14,c15],_ =>
    obtain ⟨fuel,hf⟩:=h
    obtain ⟨xs,n,_,hx,_,hlen,hg⟩:=DataW.trod_struct hs hf
    obtain ⟨o0,k0⟩:=hone_of hone 0 f0 rfl
    obtain ⟨o1,k1⟩:=hone_of hone 1 f1 rfl
    obtain ⟨o2,k2⟩:=hone_of hone 2 f2 rfl
    obtain ⟨o3,k3⟩:=hone_of hone 3 f3 rfl
    obtain ⟨o4,k4⟩:=hone_of hone 4 f4 rfl
    obtain ⟨o5,k5⟩:=hone_of hone 5 f5 rfl
    obtain ⟨o6,k6⟩:=hone_of hone 6 f6 rfl
    obtain ⟨o7,k7⟩:=hone_of hone 7 f7 rfl
    obtain ⟨o8,k8⟩:=hone_of hone 8 f8 rfl
    obtain ⟨o9,k9⟩:=hone_of hone 9 f9 rfl
    obtain ⟨o10,k10⟩:=hone_of hone 10 f10 rfl
    obtain ⟨o11,k11⟩:=hone_of hone 11 f11 rfl
    obtain ⟨o12,k12⟩:=hone_of hone 12 f12 rfl
    obtain ⟨o13,k13⟩:=hone_of hone 13 f13 rfl
    obtain ⟨o14,k14⟩:=hone_of hone 14 f14 rfl
    obtain ⟨o15,k15⟩:=hone_of hone 15 f15 rfl
    match xs,hlen with
    | [y0,y1,y2,y3,y4,y5,y6,y7,y8,y9,y10,y11,y12,y13,y14,y15],_ =>
      simp only [Prod.mk.injEq] at hx
      exact ⟨c0,c1,c2,c3,c4,c5,c6,c7,c8,c9,c10,c11,c12,c13,c14,c15,y0,y1,y2,y3,y4,y5,y6,y7,y8,y9,y10,y11,y12,y13,y14,y15,n,rfl,by simpa using hx.1,by simpa using hx.2,by simpa [Value.cells,o0,k0] using hg 0 f0 rfl,by simpa [Value.cells,o1,k1] using hg 1 f1 rfl,by simpa [Value.cells,o2,k2] using hg 2 f2 rfl,by simpa [Value.cells,o3,k3] using hg 3 f3 rfl,by simpa [Value.cells,o4,k4] using hg 4 f4 rfl,by simpa [Value.cells,o5,k5] using hg 5 f5 rfl,by simpa [Value.cells,o6,k6] using hg 6 f6 rfl,by simpa [Value.cells,o7,k7] using hg 7 f7 rfl,by simpa [Value.cells,o8,k8] using hg 8 f8 rfl,by simpa [Value.cells,o9,k9] using hg 9 f9 rfl,by simpa [Value.cells,o10,k10] using hg 10 f10 rfl,by simpa [Value.cells,o11,k11] using hg 11 f11 rfl,by simpa [Value.cells,o12,k12] using hg 12 f12 rfl,by simpa [Value.cells,o13,k13] using hg 13 f13 rfl,by simpa [Value.cells,o14,k14] using hg 14 f14 rfl,by simpa [Value.cells,o15,k15] using hg 15 f15 rfl⟩
end
set_option maxRecDepth 100000 in
set_option maxHeartbeats 1000000 in
theorem lifted (os : Os) (started : os.Started) (H : Type) (enc : TypeId × Value→H) :
    ReturnsInHanded {} Try.checked os 3 .any (Rows.resyncTurnsSpec.pre6 enc Try.prog Try.f3 Rows.resyncTurnsRow.domain false) (Rows.resyncTurnsSpec.post enc Try.prog Try.f3 false true false false):=by
  refine returnsInHanded_of_change_sized (C:=Try.checked) own started (by kernel_rfl) Try.func3
    (ChangeSpec.witness6 (enc:=enc) (C:=Try.checked) false ⟨#[],#[.agg #[.int .i64 0,.int .i64 0,.int .i64 0,.int .i64 0,.int .i64 0,.int .i64 0,.int .i64 0,.int .i64 0,.int .i64 0,.int .i64 0,.int .i64 0,.int .i64 0,.int .i64 0,.int .i64 0,.int .i64 0,.int .i64 0],.agg #[.int .i64 0,.int .i64 0,.int .i64 0,.bool false],.slice none 0 0,.slice none 0 0,.int .i64 0],[]⟩ 8 (by kernel_rfl) (by kernel_rfl) (by kernel_rfl) (by kernel_rfl)) ?_
  intro W base args ds gs before hval0 hW hcnd hsz0 _
  have hsz : (DataW.weightsEach Try.prog (Try.f3.params.toList++Rows.resyncTurnsSpec.plain.varTypes Try.prog) (ds++gs)).all (· ≤ reachBytes) = true:=hsz0
  have hval : ∀ (j : Nat) t v,Try.f3.params[j]? = some t→args[j]? = some v→Value.okWide Try.prog W .any base t v:=hval0
  have hW':=hW
  obtain ⟨p,q,hA0,hV,rfl,hfz,hnd⟩:=hW
  have hA : DataW.TrodAll enc Try.prog W 0 (fun _=>true) true Try.f3.params.toList args.toList ds p:=hA0
  rw [Try.params3] at hA hval hsz
  obtain ⟨v0,vs0,d0,ds0,p0,q0,hargs,rfl,rfl,h0,r0⟩:=trodAll_cons hA
  obtain ⟨v1,vs1,d1,ds1,p1,q1,rfl,rfl,rfl,h1,r1⟩:=trodAll_cons r0
  obtain ⟨v2,vs2,d2,ds2,p2,q2,rfl,rfl,rfl,h2,r2⟩:=trodAll_cons r1
  obtain ⟨v3,vs3,d3,ds3,p3,q3,rfl,rfl,rfl,h3,r3⟩:=trodAll_cons r2
  obtain ⟨v4,vs4,d4,ds4,p4,q4,rfl,rfl,rfl,h4,r4⟩:=trodAll_cons r3
  obtain ⟨rfl,rfl,rfl⟩:=trodAll_nil r4
  obtain rfl : args = #[v0,v1,v2,v3,v4]:=by cases args;simp_all
  obtain ⟨rfl,rfl⟩:=trodVars_none hV
  have k0:=h0
  have lt0 : ∀ x ∈ p0,x.block < W.heap.size:=by obtain ⟨m,hm⟩:=k0;exact DataW.trod_lt m _ _ _ hm
  obtain ⟨c0_0,c0_1,c0_2,c0_3,c0_4,c0_5,c0_6,c0_7,c0_8,c0_9,c0_10,c0_11,c0_12,c0_13,c0_14,c0_15,y0_0,y0_1,y0_2,y0_3,y0_4,y0_5,y0_6,y0_7,y0_8,y0_9,y0_10,y0_11,y0_12,y0_13,y0_14,y0_15,m0,rfl,rfl,rfl,hy0_0,hy0_1,hy0_2,hy0_3,hy0_4,hy0_5,hy0_6,hy0_7,hy0_8,hy0_9,hy0_10,hy0_11,hy0_12,hy0_13,hy0_14,hy0_15⟩:=open_agg16 Try.underlying23 (by kernel_rfl) (by kernel_rfl) (hval 0 23 v0 rfl rfl) h0
  obtain ⟨a0_0,e0_0,rfl,w0_0⟩:=DataW.trod_int Try.underlying3 hy0_0
  obtain rfl : c0_0 = .int .i64 a0_0:=by simpa using e0_0
  obtain ⟨a0_1,e0_1,rfl,w0_1⟩:=DataW.trod_int Try.underlying3 hy0_1
  obtain rfl : c0_1 = .int .i64 a0_1:=by simpa using e0_1
  obtain ⟨a0_2,e0_2,rfl,w0_2⟩:=DataW.trod_int Try.underlying2 hy0_2
  obtain rfl : c0_2 = .int .i64 a0_2:=by simpa using e0_2
  obtain ⟨a0_3,e0_3,rfl,w0_3⟩:=DataW.trod_int Try.underlying2 hy0_3
  obtain rfl : c0_3 = .int .i64 a0_3:=by simpa using e0_3
  obtain ⟨a0_4,e0_4,rfl,w0_4⟩:=DataW.trod_int Try.underlying2 hy0_4
  obtain rfl : c0_4 = .int .i64 a0_4:=by simpa using e0_4
  obtain ⟨a0_5,e0_5,rfl,w0_5⟩:=DataW.trod_int Try.underlying2 hy0_5
  obtain rfl : c0_5 = .int .i64 a0_5:=by simpa using e0_5
  obtain ⟨a0_6,e0_6,rfl,w0_6⟩:=DataW.trod_int Try.underlying2 hy0_6
  obtain rfl : c0_6 = .int .i64 a0_6:=by simpa using e0_6
  obtain ⟨a0_7,e0_7,rfl,w0_7⟩:=DataW.trod_int Try.underlying2 hy0_7
  obtain rfl : c0_7 = .int .i64 a0_7:=by simpa using e0_7
  obtain ⟨a0_8,e0_8,rfl,w0_8⟩:=DataW.trod_int Try.underlying2 hy0_8
  obtain rfl : c0_8 = .int .i64 a0_8:=by simpa using e0_8
  obtain ⟨a0_9,e0_9,rfl,w0_9⟩:=DataW.trod_int Try.underlying2 hy0_9
  obtain rfl : c0_9 = .int .i64 a0_9:=by simpa using e0_9
  obtain ⟨Qa,e0_10,rfl,w0_10⟩:=DataW.trod_int Try.underlying2 hy0_10
  obtain rfl : c0_10 = .int .i64 Qa:=by simpa using e0_10
  obtain ⟨Qb,e0_11,rfl,w0_11⟩:=DataW.trod_int Try.underlying2 hy0_11
  obtain rfl : c0_11 = .int .i64 Qb:=by simpa using e0_11
  obtain ⟨Qc,e0_12,rfl,w0_12⟩:=DataW.trod_int Try.underlying3 hy0_12
  obtain rfl : c0_12 = .int .i64 Qc:=by simpa using e0_12
  obtain ⟨Qd,e0_13,rfl,w0_13⟩:=DataW.trod_int Try.underlying3 hy0_13
  obtain rfl : c0_13 = .int .i64 Qd:=by simpa using e0_13
  obtain ⟨Qe,e0_14,rfl,w0_14⟩:=DataW.trod_int Try.underlying3 hy0_14
  obtain rfl : c0_14 = .int .i64 Qe:=by simpa using e0_14
  obtain ⟨Qf,e0_15,rfl,w0_15⟩:=DataW.trod_int Try.underlying2 hy0_15
  obtain rfl : c0_15 = .int .i64 Qf:=by simpa using e0_15
  have k1:=h1
  have lt1 : ∀ x ∈ p1,x.block < W.heap.size:=by obtain ⟨m,hm⟩:=k1;exact DataW.trod_lt m _ _ _ hm
  obtain ⟨c1_0,c1_1,c1_2,c1_3,y1_0,y1_1,y1_2,y1_3,m1,rfl,rfl,rfl,hy1_0,hy1_1,hy1_2,hy1_3⟩:=open_agg4 Try.underlying25 (by kernel_rfl) (by kernel_rfl) (hval 1 25 v1 rfl rfl) h1
  obtain ⟨a1_0,e1_0,rfl,w1_0⟩:=DataW.trod_int Try.underlying3 hy1_0
  obtain rfl : c1_0 = .int .i64 a1_0:=by simpa using e1_0
  obtain ⟨a1_1,e1_1,rfl,w1_1⟩:=DataW.trod_int Try.underlying3 hy1_1
  obtain rfl : c1_1 = .int .i64 a1_1:=by simpa using e1_1
  obtain ⟨a1_2,e1_2,rfl,w1_2⟩:=DataW.trod_int Try.underlying2 hy1_2
  obtain rfl : c1_2 = .int .i64 a1_2:=by simpa using e1_2
  obtain ⟨a1_3,e1_3,rfl⟩:=DataW.trod_bool Try.underlying4 hy1_3
  obtain rfl : c1_3 = .bool a1_3:=by simpa using e1_3
  have k2:=h2
  have lt2 : ∀ x ∈ p2,x.block < W.heap.size:=by obtain ⟨m,hm⟩:=k2;exact DataW.trod_lt m _ _ _ hm
  obtain ⟨a2,len2,cap2,rfl⟩:=okWide_slice Try.underlying26 (hval 2 26 v2 rfl rfl)
  obtain ⟨z2,w2⟩ : ∃ zs,IsRow .i64 W a2 len2 cap2 zs:=by
    obtain ⟨fuel,hf⟩:=h2
    rcases open_ints Try.underlying26 Try.underlying2 (by kernel_rfl) hf with ⟨hcs,_⟩|⟨x,l,c,zs,hcs,_,hl,hm,hz,_,hcell,hwz⟩
    · simp [Value.cells] at hcs
      obtain ⟨rfl,rfl,rfl⟩:=hcs
      exact ⟨[],.inl ⟨rfl,rfl,rfl,rfl⟩⟩
    · simp [Value.cells] at hcs
      obtain ⟨rfl,rfl,rfl⟩:=hcs
      exact ⟨zs,.inr ⟨_,rfl,hl,hm,by simpa using hz,hcell,hwz⟩⟩
  have y2 : len2 * 8 ≤ 140737488351232:=sized_ints hsz (j:=2) (t:=26) rfl rfl Try.underlying26 Try.underlying2 (by kernel_rfl) (by kernel_rfl) h2
  obtain ⟨l2,rfl,hr2,hm2,hw2,hc2⟩:=ReadsInt.ofRowC w2
  have k3:=h3
  have lt3 : ∀ x ∈ p3,x.block < W.heap.size:=by obtain ⟨m,hm⟩:=k3;exact DataW.trod_lt m _ _ _ hm
  obtain ⟨a3,len3,cap3,rfl⟩:=okWide_slice Try.underlying27 (hval 3 27 v3 rfl rfl)
  obtain ⟨l3,hl3,hr3,hc3⟩ : ∃ l : List (List Int),l.length = len3∧Kd.C (Kd.slice 2 (Kd.int .i64)) W a3 len3 l∧len3 ≤ cap3:=by
    obtain ⟨fuel,hf⟩:=h3
    rcases open_int_rows Try.underlying27 Try.underlying26 Try.underlying2 (by kernel_rfl) (by kernel_rfl) hf with ⟨hcs,_⟩|⟨x,l,c,A,L,C,Z,hcs,_,hl,hm,_,hrows⟩
    · simp [Value.cells] at hcs
      obtain ⟨rfl,rfl,rfl⟩:=hcs
      exact ⟨[],rfl,⟨rfl,by omega,fun h=>absurd h (by omega)⟩,Nat.le_refl _⟩
    · simp [Value.cells] at hcs
      obtain ⟨rfl,rfl,rfl⟩:=hcs
      obtain ⟨l2,h1,h2⟩:=Hand.rows_C (e:=2) x _ A L C Z (Nat.le_trans hl hm) (fun r hr=>by obtain ⟨q1,q2,q3,q4,q5,q6,q7⟩:=hrows r (Nat.lt_of_lt_of_le hr hl);exact ⟨q1,q2,q3,q4,q5,q6,fun a' ha' c hc=>(q7 a' ha').2 c hc⟩)
      exact ⟨l2,h1,h2,hl⟩
  subst hl3
  obtain ⟨a4,rfl,rfl,rfl,w4⟩:=open_int Try.underlying3 (hval 4 3 v4 rfl rfl) h4
  clear hA0 hval0 hsz0 hsz
  obtain ⟨k,hp⟩:=Pure.ResyncTurns a0_0 a0_1 a0_2 a0_3 a0_4 a0_5 a0_6 a0_7 a0_8 a0_9 Qa Qb Qc Qd Qe Qf a1_0 a1_1 a1_2 a1_3 l2 l3 a4 w0_0 w0_1 w0_2 w0_3 w0_4 w0_5 w0_6 w0_7 w0_8 w0_9 w0_10 w0_11 w0_12 w0_13 w0_14 w0_15 w1_0 w1_1 w1_2 hm2 y2 hw2 w4
  refine (PR.vesperslaw15_ResyncTurns.calls k a0_0 a0_1 a0_2 a0_3 a0_4 a0_5 a0_6 a0_7 a0_8 a0_9 Qa Qb Qc Qd Qe Qf a1_0 a1_1 a1_2 a1_3 _ _ l2 _ _ l3 a4 true W (Kd.C_of_reads (d:=(0 : Int)) (h1:=fun _=>rfl) hr2) hc2 hr3 hc3 hp).mono ?_
  rintro e W' ⟨rfl,bel⟩
  exact ⟨_,rfl,_,_,_,[],_,[],hW',trodAll_mk1 (shut_bool Try.underlying4 _),(trodAll_cons_mk (Below.trod laidOut (by kernel_rfl) (of_decide_eq_true (by kernel_rfl)) k0 bel lt0) (trodAll_cons_mk (Below.trod laidOut (by kernel_rfl) (of_decide_eq_true (by kernel_rfl)) k1 bel lt1) (trodAll_cons_mk (Below.trod laidOut (by kernel_rfl) (of_decide_eq_true (by kernel_rfl)) k2 bel lt2) (trodAll_cons_mk (Below.trod laidOut (by kernel_rfl) (of_decide_eq_true (by kernel_rfl)) k3 bel lt3) (trodAll_cons_mk (shut_int Try.underlying3 w4) trodAll_mk0))))),rfl,bel.frame _,fun h=>by cases h⟩
theorem over : Rows.resyncTurnsRow.holds Try.pinned (OpenSpec.ofChange Rows.resyncTurnsSpec) :=
  OpenClaim.holds_of_wide 3 Try.f3 rfl rfl rfl rfl rfl rfl rfl ⟨rfl,rfl,rfl,rfl,rfl⟩ rfl rfl rfl rfl rfl (by kernel_rfl) Try.func3 (by kernel_rfl)
    (of_decide_eq_true (by kernel_rfl)) (by unfold Func.isWrapper;first|(rw [if_pos (by decide +kernel)];kernel_rfl)|(rw [if_neg (by decide +kernel)];exact ⟨rfl,rfl⟩))
    (fun os started H enc _=>lifted os started H enc)
theorem proved : Rows.ResyncTurnsSaid:=over
#print axioms proved
end Go.Proofs.Ytnmephdamgofnaa.resyncTurns
namespace Go.Proofs.Ytnmephdamgofnaa
/-- The row, under a short name, for the claim. -/
theorem resyncTurns_holds : Rows.ResyncTurnsSaid:=resyncTurns.proved
end Go.Proofs.Ytnmephdamgofnaa
