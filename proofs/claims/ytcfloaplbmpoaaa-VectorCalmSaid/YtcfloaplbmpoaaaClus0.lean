/- A cluster's slots in numbers: each node's vector, what it waits for, whom it waits with, how often it was told that it is lost; plain. -/
set_option linter.unusedVariables false
namespace Go.Proofs.Ytcfloaplbmpoaaa.Cl
/-- with, without, has -/
def wN (v n : Nat) : Nat := v ||| (1 <<< n)
def oN (v n : Nat) : Nat := v &&& (65535 - (1 <<< n))
structure Q where
  v : Nat
  a : Nat
  f : Nat
  z : Nat
def may (i : Nat) (q : Q) : Bool := match q.a with
  | 0 => q.f == 0
  | 1 => q.f == 0 && q.v.testBit i
  | 2 => Nat.blt q.f 16 && !(q.f == i) && q.v.testBit i
  | _ => false
/-- one that does not send; 'none': it sees nothing -/
def hear (i s frame : Nat) (none : Bool) (q : Q) : Option Q :=
  bif may i q then
    bif none then some ⟨oN q.v s, q.a, q.f, q.z⟩
    else bif wN q.v s == frame then some ⟨wN q.v s, 0, 0, q.z⟩
    else match q.a with
      | 0 => some ⟨oN q.v s, q.a, q.f, q.z⟩
      | 1 => bif oN (wN q.v s) i == frame then some ⟨oN q.v s, 2, s, q.z⟩ else some ⟨oN q.v s, q.a, q.f, q.z⟩
      | _ => bif wN (oN (wN q.v s) i) q.f == frame then some ⟨wN (wN (oN q.v i) s) q.f, 0, 0, q.z + 1⟩ else some ⟨oN q.v s, q.a, q.f, q.z⟩
  else .none
def send (i : Nat) (sent : Bool) (q : Q) : Option Q :=
  bif may i q then (bif sent then some ⟨wN q.v i, 1, 0, q.z⟩ else some ⟨oN q.v i, 0, 0, q.z⟩) else .none
/-- all of a slot, from node i on -/
def rest (s frame : Nat) (sent lose : Bool) (deaf : Nat) : Nat → List Q → Option (List Q)
  | _, [] => some []
  | i, q :: t => match (bif i == s then send i sent q else hear i s frame (!sent || lose || i == deaf) q) with
    | some q' => (match rest s frame sent lose deaf (i + 1) t with | some t' => some (q' :: t') | none => none)
    | none => none
def nth : List Q → Nat → Q
  | [], _ => ⟨0, 0, 0, 0⟩
  | q :: _, 0 => q
  | _ :: t, n + 1 => nth t n
def slot (s deaf : Nat) (lose : Bool) (l : List Q) : Option (List Q) :=
  rest s (wN (nth l s).v s) ((nth l s).z == 0) lose deaf 0 l
/-- has all but one the same vector, and what must be? -/
def same1 (bad all : Nat) (gone : Bool) (g : Nat) : Nat → List Q → Bool
  | _, [] => true
  | i, q :: t => (i == bad || (q.v == g && wN q.v bad == all && !(gone && q.v.testBit bad) && q.z == 0)) && same1 bad all gone g (i + 1) t
def same (bad all : Nat) (gone : Bool) (l : List Q) : Bool := same1 bad all gone (nth l (bif bad == 0 then 1 else 0)).v 0 l
def start (n all : Nat) : List Q := List.replicate n ⟨all, 0, 0, 0⟩
/-- from slot t on, k slots -/
def runF (n when_ bad : Nat) (lose : Bool) : Nat → Nat → Nat → List Q → Bool
  | 0, _, _, _ => true
  | k + 1, t, turns, l => match slot (t % n) (bif t == n + when_ && !lose then bad else 99) (t == n + when_ && lose) l with
    | none => false
    | some l' =>
      let turns' := bif Nat.blt (n + when_) t && t % n == bad then turns + 1 else turns
      (!(Nat.blt (n + when_) t && t % n == bad && lose && turns' == 1 && (nth l' bad).z == 0))
      && same bad (2 ^ n - 1) (Nat.blt (n + when_) t && (lose || Nat.blt 0 turns')) l' && runF n when_ bad lose k (t + 1) turns' l'
def allB (p : Nat → Bool) : Nat → Bool
  | 0 => true
  | k + 1 => p k && allB p k
def faultsOk (n : Nat) : Bool := allB (fun w => runF n w w true (4 * n) 0 0 (start n (2 ^ n - 1)) && allB (fun d => d == w || runF n w d false (4 * n) 0 0 (start n (2 ^ n - 1))) n) n
def same0 (want k n at_ : Nat) : Nat → List Q → Bool
  | _, [] => true
  | i, q :: t => q.v == want && (i == k || q.z == 0) && (Nat.blt k n || ((!(q.a == 0)) == (i == at_))) && same0 want k n at_ (i + 1) t
def runC (n k : Nat) : Nat → Nat → List Q → Bool
  | 0, _, _ => true
  | m + 1, t, l => match slot (t % n) 99 false l with
    | none => false
    | some l' => same0 (bif Nat.blt k n && Nat.ble k t then oN (2 ^ n - 1) k else 2 ^ n - 1) k n (t % n) 0 l' && runC n k m (t + 1) l'
def startC (k all i : Nat) : List Q := (List.range i).map fun j => ⟨all, 0, 0, bif j == k then 1 else 0⟩
def calmOk (n : Nat) : Bool := allB (fun k => runC n k (3 * n) 0 (startC k (2 ^ n - 1) n)) 20
end Go.Proofs.Ytcfloaplbmpoaaa.Cl
