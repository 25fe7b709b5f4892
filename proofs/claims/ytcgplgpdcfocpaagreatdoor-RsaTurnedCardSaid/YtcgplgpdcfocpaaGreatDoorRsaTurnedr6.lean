/- RsaTurned: the row and the tied card: a signature in the first way in which a bit is turned is none, whatever the text, the place and the bit; no condition. -/
import Derived.Test.YtcgplgpdcfocpaaGreatDoorCards
import Derived.Test.YtcgplgpdcfocpaaGreatDoorTie
import Derived.SevenTiedAt
import Derived.Test.YtcgplgpdcfocpaaGreatDoorRsaTurnedr5
set_option linter.unusedVariables false
set_option linter.unusedSimpArgs false
set_option maxRecDepth 100000
open Int renaming reduceAdd → Za, reduceEq → Zb, reduceLE → Zc, reduceLT → Zd, reduceMul → Ze, reduceNeg → Zf, reducePow → Zg, reduceSub → Zj, reduceToNat → Zk
open Nat renaming reduceAdd → Zl, reduceEqDiff → Zm, reduceLT → Zn, reduceLeDiff → Zp, reduceMul → Zq
section
namespace Go.Proofs.YtcgplgpdcfocpaaGreatDoor.Pr
def IsP (p : Nat) : Prop := 2 ≤ p ∧ ∀ d, d ∣ p → d = 1 ∨ d = p
theorem IsP.euc {p a b : Nat} (h : IsP p) (d : p ∣ a * b) : p ∣ a ∨ p ∣ b := by
 rcases h.2 _ (Nat.gcd_dvd_left p a) with g | g
 ·right
  exact Nat.Coprime.dvd_of_dvd_mul_left g d
 ·left
  rw[← g]
  exact Nat.gcd_dvd_right p a
theorem ex_prime : ∀ n : Nat, 2 ≤ n → ∃ p, IsP p ∧ p ∣ n := fun n => by
 induction n using Nat.strongRecOn with
 | ind n ih =>
  intro h
  by_cases g : ∀ d, d ∣ n → d = 1 ∨ d = n
  ·exact ⟨n, ⟨h, g⟩, Nat.dvd_refl n⟩
  ·obtain ⟨d, g⟩ := Classical.not_forall.1 g
   have g1 : d ∣ n := Classical.byContradiction fun x => g fun y => absurd y x
   have g2 : d ≠ 1 := fun x => g fun _ => .inl x
   have g3 : d ≠ n := fun x => g fun _ => .inr x
   have g4 : d ≤ n := Nat.le_of_dvd (by omega) g1
   have g5 : d ≠ 0 := fun x => by
    rw[x] at g1
    have := Nat.eq_zero_of_zero_dvd g1
    omega
   obtain ⟨p, hp, hd⟩ := ih d (by omega) (by omega)
   exact ⟨p, hp, Nat.dvd_trans hd g1⟩
def C : Nat → Nat → Nat
 | _, 0 => 1
 | 0, _+1 => 0
 | n+1, k+1 => C n k + C n (k+1)
theorem C_gt : ∀ n k : Nat, n < k → C n k = 0
 | 0, k+1, _ => rfl
 | n+1, k+1, h => by
  show C n k + C n (k+1) = 0
  rw[C_gt n k (by omega),C_gt n (k+1) (by omega)]
theorem C_nn : ∀ n : Nat, C n n = 1
 | 0 => rfl
 | n+1 => by
  show C n n + C n (n+1) = 1
  rw[C_nn n,C_gt n (n+1) (by omega)]
theorem C_mul : ∀ n k : Nat, (k+1) * C (n+1) (k+1) = (n+1) * C n k
 | 0, 0 => rfl
 | 0, k+1 => by
  show (k+1+1) * (C 0 (k+1) + C 0 (k+2)) = 1 * C 0 (k+1)
  rw[C_gt 0 (k+1) (by omega),C_gt 0 (k+2) (by omega)]
  rfl
 | n+1, 0 => by
  have h := C_mul n 0
  show (0+1) * (C (n+1) 0 + C (n+1) 1) = (n+1+1) * C (n+1) 0
  have e : C (n+1) 0 = 1 := rfl
  have e' : C n 0 = 1 := by cases n <;> rfl
  rw[e'] at h
  rw[e]
  have h' : (0 + 1) * C (n+1) 1 = (n+1) * 1 := h
  omega
 | n+1, k+1 => by
  have h1 := C_mul n k
  have h2 := C_mul n (k+1)
  have e : C (n+1) (k+1) = C n k + C n (k+1) := rfl
  show (k+1+1) * (C (n+1) (k+1) + C (n+1) (k+2)) = (n+1+1) * C (n+1) (k+1)
  rw[Nat.mul_add,h2,Nat.add_mul (n+1) 1,e,Nat.add_mul (k+1) 1,← e,h1,e,Nat.mul_add (n+1)]
  omega
def sm (f : Nat → Nat) : Nat → Nat
 | 0 => 0
 | m+1 => sm f m + f m
theorem sm_head (f : Nat → Nat) : ∀ m, sm f (m+1) = f 0 + sm (fun k => f (k+1)) m
 | 0 => by simp[sm]
 | m+1 => by
  show sm f (m+1) + f (m+1) = f 0 + (sm (fun k => f (k+1)) m + f (m+1))
  rw[sm_head f m]
  omega
theorem sm_add (f g : Nat → Nat) : ∀ m, sm (fun k => f k + g k) m = sm f m + sm g m
 | 0 => rfl
 | m+1 => by
  show sm (fun k => f k + g k) m + (f m + g m) = sm f m + f m + (sm g m + g m)
  rw[sm_add f g m]
  omega
theorem sm_mul (c : Nat) (f : Nat → Nat) : ∀ m, sm (fun k => c * f k) m = c * sm f m
 | 0 => rfl
 | m+1 => by
  show sm (fun k => c * f k) m + c * f m = c * (sm f m + f m)
  rw[sm_mul c f m,Nat.mul_add]
theorem sm_dvd (p : Nat) (f : Nat → Nat) : ∀ m, (∀ k, k < m → p ∣ f k) → p ∣ sm f m
 | 0, _ => Nat.dvd_zero p
 | m+1, h => Nat.dvd_add (sm_dvd p f m fun k hk => h k (by omega)) (h m (by omega))
theorem sm_cong (f g : Nat → Nat) : ∀ m, (∀ k, k < m → f k = g k) → sm f m = sm g m
 | 0, _ => rfl
 | m+1, h => by
  show sm f m + f m = sm g m + g m
  rw[sm_cong f g m fun k hk => h k (by omega), h m (by omega)]
theorem C_0 (n : Nat) : C n 0 = 1 := by cases n <;> rfl
theorem binom (x : Nat) : ∀ n m, n < m → sm (fun k => C n k * x ^ k) m = (x + 1) ^ n
 | 0, m+1, _ => by
  rw[sm_head, sm_cong _ (fun _ => 0)]
  ·have : ∀ m, sm (fun _ => 0) m = 0 := fun m => by
    induction m with
    | zero => rfl
    | succ m ih => show sm (fun _ => 0) m + 0 = 0; rw[ih]
   rw[this]
   rfl
  ·intro k _
   show C 0 (k+1) * _ = 0
   rw[C_gt 0 (k+1) (by omega),Nat.zero_mul]
 | n+1, m+1, h => by
  have h1 := binom x n m (by omega)
  have h2 := binom x n (m+1) (by omega)
  rw[sm_head] at h2 ⊢
  have e : sm (fun k => C (n+1) (k+1) * x ^ (k+1)) m = x * sm (fun k => C n k * x ^ k) m + sm (fun k => C n (k+1) * x ^ (k+1)) m := by
   rw[← sm_mul,← sm_add]
   refine sm_cong _ _ m fun k _ => ?_
   show (C n k + C n (k+1)) * x ^ (k+1) = x * (C n k * x ^ k) + _
   rw[Nat.add_mul,Nat.pow_succ,Nat.mul_left_comm x,Nat.mul_comm x]
  rw[e,h1,C_0]
  rw[C_0] at h2
  rw[Nat.pow_succ,Nat.mul_add]
  rw[← h2] at *
  have : x * (1 * x ^ 0 + sm (fun k => C n (k + 1) * x ^ (k + 1)) m) = (1 * x ^ 0 + sm (fun k => C n (k + 1) * x ^ (k + 1)) m) * x := Nat.mul_comm _ _
  omega
theorem C_dvd {p k : Nat} (h : IsP p) (h0 : 0 < k) (h1 : k < p) : p ∣ C p k := by
 obtain ⟨n, rfl⟩ : ∃ n, p = n + 1 := ⟨p - 1, by omega⟩
 obtain ⟨j, rfl⟩ : ∃ j, k = j + 1 := ⟨k - 1, by omega⟩
 have := C_mul n j
 rcases h.euc (⟨_, this⟩) with g | g
 ·have := Nat.le_of_dvd (by omega) g
  omega
 ·exact g
theorem frob {p : Nat} (h : IsP p) (x : Nat) : (x + 1) ^ p % p = (x ^ p + 1) % p := by
 have hb := binom x p (p+1) (by omega)
 obtain ⟨n, e⟩ : ∃ n, p = n + 1 := ⟨p - 1, by have := h.1; omega⟩
 have e2 : sm (fun k => C p k * x ^ k) (p+1) = sm (fun k => C p k * x ^ k) p + C p p * x ^ p := rfl
 have e3 : sm (fun k => C p k * x ^ k) p = C p 0 * x ^ 0 + sm (fun k => C p (k+1) * x ^ (k+1)) n := by
  rw[← sm_head (fun k => C p k * x ^ k) n, ← e]
 have hd : p ∣ sm (fun k => C p (k+1) * x ^ (k+1)) n := sm_dvd _ _ _ fun k hk => Nat.dvd_trans (C_dvd h (by omega) (by omega)) (Nat.dvd_mul_right _ _)
 obtain ⟨q, hq⟩ := hd
 rw[← hb,e2,e3,hq,C_0,C_nn]
 rw[Nat.pow_zero, Nat.one_mul, Nat.one_mul, show 1 + p * q + x ^ p = x ^ p + 1 + p * q by omega, Nat.add_mul_mod_self_left]
theorem fermat {p : Nat} (h : IsP p) : ∀ a, a ^ p % p = a % p
 | 0 => by
  have := h.1
  rw[Nat.zero_pow (by omega)]
 | a+1 => by
  rw[frob h,Nat.add_mod,fermat h a,← Nat.add_mod]
theorem dvd_mod {n a b : Nat} (h : a % n = b % n) (hb : b ≤ a) : n ∣ a - b := by
 have h1 := Nat.div_add_mod a n
 have h2 := Nat.div_add_mod b n
 refine ⟨a / n - b / n, ?_⟩
 rw[Nat.mul_sub]
 omega
theorem fermat1 {p a : Nat} (h : IsP p) (ha : ¬ p ∣ a) : a ^ (p - 1) % p = 1 := by
 have f := fermat h a
 have h2 := h.1
 have ha0 : 0 < a := Nat.pos_of_ne_zero fun x => ha (by rw[x]; exact Nat.dvd_zero p)
 have h1 : 1 ≤ a ^ (p - 1) := Nat.pow_pos ha0
 have e : a ^ p = a ^ (p - 1) * a := by rw[← Nat.pow_succ]; congr 1; omega
 have hd : p ∣ a ^ p - a := dvd_mod f (by rw[e]; exact Nat.le_mul_of_pos_left a h1)
 rw[e, show a ^ (p-1) * a - a = (a ^ (p-1) - 1) * a by rw [Nat.sub_mul, Nat.one_mul]] at hd
 rcases h.euc hd with g | g
 ·obtain ⟨q, g⟩ := g
  rw[show a ^ (p-1) = 1 + p * q by omega, Nat.add_mul_mod_self_left]
  exact Nat.mod_eq_of_lt (by omega)
 ·exact absurd g ha
theorem pow_one_mod {r b u : Nat} (hr : 2 ≤ r) (k : Nat) (h : b ^ u % r = 1) : b ^ (u * k) % r = 1 := by
 rw[Nat.pow_mul,Nat.pow_mod,h,Nat.one_pow]
 exact Nat.mod_eq_of_lt (by omega)
theorem pow_gcd {r b : Nat} (hr : 2 ≤ r) : ∀ u v, b ^ u % r = 1 → b ^ v % r = 1 → b ^ (Nat.gcd u v) % r = 1 := fun u v => by
 induction u, v using Nat.gcd.induction with
 | H0 n => intro _ h; rwa [Nat.gcd_zero_left]
 | H1 m n hm ih =>
  intro h1 h2
  rw[Nat.gcd_rec]
  refine ih ?_ h1
  have e : b ^ n = b ^ (m * (n / m)) * b ^ (n % m) := by rw[← Nat.pow_add,Nat.div_add_mod]
  rw[e,Nat.mul_mod,pow_one_mod hr _ h1,Nat.one_mul,Nat.mod_mod] at h2
  exact h2
theorem pock {n a q m r : Nat} (hq : IsP q) (hm : n - 1 = q * m) (hn : 2 ≤ n) (h1 : a ^ (n - 1) % n = 1) (h2 : Nat.gcd (a ^ m % n + (n - 1)) n = 1) (hr : IsP r) (hd : r ∣ n) : q ∣ r - 1 := by
 apply Classical.byContradiction
 intro hc
 have r2 := hr.1
 have c : Nat.gcd q (r - 1) = 1 := by
  rcases hq.2 _ (Nat.gcd_dvd_left q (r - 1)) with g | g
  ·exact g
  ·exact absurd (g ▸ Nat.gcd_dvd_right q (r - 1)) hc
 have k1 : a ^ (n - 1) % r = 1 := by
  rw[← Nat.mod_mod_of_dvd _ hd,h1]
  exact Nat.mod_eq_of_lt (by omega)
 have ha : ¬ r ∣ a ^ m := fun x => by
  have x' : r ∣ a ^ (n - 1) := by
   rw[hm,Nat.mul_comm,Nat.pow_mul]
   have := hq.1
   exact Nat.dvd_trans x ⟨(a ^ m) ^ (q - 1), by rw[← Nat.pow_succ']; congr 1; omega⟩
  have := Nat.mod_eq_zero_of_dvd x'
  omega
 have k2 := fermat1 hr ha
 have k3 : (a ^ m) ^ q % r = 1 := by rw[← Nat.pow_mul,Nat.mul_comm,← hm,k1]
 have k4 := pow_gcd r2 q (r - 1) k3 k2
 rw[c,Nat.pow_one] at k4
 have k5 : r ∣ a ^ m % n + (n - 1) := by
  have e : (a ^ m % n + (n - 1)) % r = 0 := by
   rw[Nat.add_mod,Nat.mod_mod_of_dvd _ hd,k4]
   obtain ⟨t, rfl⟩ := hd
   have ht : 1 ≤ t := Nat.pos_of_ne_zero fun x => by rw[x] at hn; omega
   have z : (1 + (r * t - 1)) % r = 0 := by
    rw[show 1 + (r * t - 1) = r * t by omega]
    exact Nat.mul_mod_right r t
   rw[Nat.add_mod, Nat.mod_eq_of_lt (show 1 < r by omega)] at z
   exact z
  exact Nat.dvd_of_mod_eq_zero e
 have := Nat.dvd_gcd k5 hd
 rw[h2] at this
 have := Nat.le_of_dvd (by omega) this
 omega
def prod : List Nat → Nat
 | [] => 1
 | q :: l => q * prod l
def pm (n : Nat) : Nat → Nat → Nat → Nat → Nat
 | 0, _, _, acc => acc
 | f+1, b, e, acc => pm n f (b * b % n) (e / 2) (if e % 2 = 0 then acc else acc * b % n)
theorem pm_ok (n : Nat) : ∀ f b e acc, e < 2 ^ f → pm n f b e acc % n = acc * b ^ e % n
 | 0, b, e, acc, h => by
  have : e = 0 := by simpa using h
  rw[this]
  simp[pm]
 | f+1, b, e, acc, h => by
  unfold pm
  rw[pm_ok n f _ _ _ (by rw [Nat.pow_succ] at h; omega)]
  have e1 : (b * b % n) ^ (e / 2) % n = b ^ (2 * (e / 2)) % n := by
   rw[← Nat.pow_mod,Nat.pow_mul,Nat.pow_two]
  by_cases h0 : e % 2 = 0
  ·rw[if_pos h0, Nat.mul_mod, e1, ← Nat.mul_mod, show 2 * (e / 2) = e by omega]
  ·rw[if_neg h0, Nat.mul_mod, Nat.mod_mod, ← Nat.mul_mod, Nat.mul_mod, e1, ← Nat.mul_mod, Nat.mul_assoc, ← Nat.pow_succ', show (2 * (e / 2)).succ = e by omega]
theorem IsP.cop {p q : Nat} (hp : IsP p) (hq : IsP q) (h : p ≠ q) : Nat.Coprime p q := by
 rcases hp.2 _ (Nat.gcd_dvd_left p q) with g | g
 ·exact g
 ·rcases hq.2 _ (Nat.gcd_dvd_right p q) with g' | g'
  ·exact g'
  ·exact absurd (g.symm.trans g') h
theorem prod_cop {q : Nat} (hq : IsP q) : ∀ l : List Nat, (∀ x, x ∈ l → IsP x) → q ∉ l → Nat.Coprime q (prod l)
 | [], _, _ => Nat.coprime_one_right q
 | x :: l, h, hn => Nat.Coprime.mul_right (hq.cop (h x (by simp)) fun e => hn (by simp[e])) (prod_cop hq l (fun y hy => h y (by simp[hy])) fun g => hn (by simp[g]))
theorem prod_dvd {x : Nat} : ∀ l : List Nat, (∀ y, y ∈ l → IsP y) → l.Nodup → (∀ y, y ∈ l → y ∣ x) → prod l ∣ x
 | [], _, _, _ => Nat.one_dvd x
 | q :: l, h, hn, hd => by
  rw[List.nodup_cons] at hn
  exact Nat.Coprime.mul_dvd_of_dvd_of_dvd (prod_cop (h q (by simp)) l (fun y hy => h y (by simp[hy])) hn.1) (hd q (by simp)) (prod_dvd l (fun y hy => h y (by simp[hy])) hn.2 fun y hy => hd y (by simp[hy]))
theorem pocks {n a : Nat} {l : List Nat} (hn : 2 ≤ n) (hl : ∀ q, q ∈ l → IsP q) (nd : l.Nodup) (hb : n < prod l * prod l) (h1 : a ^ (n - 1) % n = 1) (h2 : ∀ q, q ∈ l → n - 1 = q * ((n - 1) / q) ∧ Nat.gcd (a ^ ((n - 1) / q) % n + (n - 1)) n = 1) : IsP n := by
 have key : ∀ s t, s * t = n → s ≤ t → s = 1 := fun s t e hst => by
  apply Classical.byContradiction
  intro hs
  have s0 : s ≠ 0 := fun x => by rw[x,Nat.zero_mul] at e; omega
  obtain ⟨r, hr, hd⟩ := ex_prime s (by omega)
  have hrn : r ∣ n := Nat.dvd_trans hd ⟨t, e.symm⟩
  have hp : prod l ∣ r - 1 := prod_dvd l hl nd fun q hq => pock (hl q hq) (h2 q hq).1 hn h1 (h2 q hq).2 hr hrn
  have r2 := hr.1
  have b1 := Nat.le_of_dvd (by omega) hp
  have b2 := Nat.le_of_dvd (by omega) hd
  have b3 : prod l * prod l ≤ s * t := Nat.mul_le_mul (by omega) (by omega)
  omega
 refine ⟨hn, fun d hd => ?_⟩
 obtain ⟨t, ht⟩ := hd
 rcases Nat.le_total d t with g | g
 ·exact .inl (key d t ht.symm g)
 ·right
  have := key t d (by rw[Nat.mul_comm]; exact ht.symm) g
  rw[ht,this,Nat.mul_one]
def tst (n a : Nat) (l : List Nat) : Bool :=
 Nat.beq (pm n (Nat.log2 n + 1) a (n - 1) 1) 1 && Nat.blt n (prod l * prod l) && l.all fun q => Nat.beq ((n - 1) % q) 0 && Nat.beq (Nat.gcd (pm n (Nat.log2 n + 1) a ((n - 1) / q) 1 % n + (n - 1)) n) 1
theorem pm_pow {n a e : Nat} (h : e ≤ n) : pm n (Nat.log2 n + 1) a e 1 % n = a ^ e % n := by
 rw[pm_ok n _ _ _ _ (Nat.lt_of_le_of_lt h Nat.lt_log2_self),Nat.one_mul]
theorem tst_ok {n a : Nat} {l : List Nat} (hn : 2 ≤ n) (hl : ∀ q, q ∈ l → IsP q) (nd : l.Nodup) (h : tst n a l = true) : IsP n := by
 unfold tst at h
 simp only[Bool.and_eq_true,List.all_eq_true] at h
 obtain ⟨⟨h1, h2⟩, h3⟩ := h
 have h1 := Nat.eq_of_beq_eq_true h1
 refine pocks (a := a) hn hl nd (by simpa [Nat.blt_eq] using h2) ?_ fun q hq => ?_
 ·rw[← pm_pow (by omega),h1]
  exact Nat.mod_eq_of_lt (by omega)
 ·obtain ⟨g1, g2⟩ := h3 q hq
  have g1 := Nat.eq_of_beq_eq_true g1
  have g2 := Nat.eq_of_beq_eq_true g2
  refine ⟨?_, ?_⟩
  ·have := Nat.div_add_mod (n - 1) q
   omega
  ·have e := pm_pow (a := a) (show (n - 1) / q ≤ n from Nat.le_trans (Nat.div_le_self _ _) (by omega))
   rw[← e,g2]
theorem sml_ok {n k : Nat} (hn : 2 ≤ n) (hk : n < k * k) (h : ((List.range k).all fun d => Nat.blt d 2 || !(Nat.beq (n % d) 0)) = true) : IsP n := by
 have key : ∀ s t, s * t = n → s ≤ t → s = 1 := fun s t e hst => by
  have hs : s < k := Classical.byContradiction fun g => by
   have := Nat.mul_le_mul (show k ≤ s by omega) (show k ≤ t by omega)
   omega
  have s0 : s ≠ 0 := fun x => by rw[x,Nat.zero_mul] at e; omega
  have g := List.all_eq_true.1 h s (List.mem_range.2 hs)
  rw[Bool.or_eq_true] at g
  rcases g with g | g
  ·have : s < 2 := by simpa [Nat.blt_eq] using g
   omega
  ·rw[← e,Nat.mul_mod_right] at g
   simp at g
 refine ⟨hn, fun d hd => ?_⟩
 obtain ⟨t, ht⟩ := hd
 rcases Nat.le_total d t with g | g
 ·exact .inl (key d t ht.symm g)
 ·right
  have := key t d (by rw[Nat.mul_comm]; exact ht.symm) g
  rw[ht,this,Nat.mul_one]
theorem und {p k m x : Nat} (hp : IsP p) (hx : x = 1 + (p - 1) * k) : m ^ x % p = m % p := by
 have h2 := hp.1
 rw[hx,Nat.pow_add,Nat.pow_one]
 by_cases h : p ∣ m
 ·obtain ⟨t, rfl⟩ := h
  rw[Nat.mul_assoc,Nat.mul_mod_right,Nat.mul_mod_right]
 ·rw[Nat.mul_mod,pow_one_mod h2 k (fermat1 hp h),Nat.mul_one,Nat.mod_mod]
theorem crt {p q a b : Nat} (hp : IsP p) (hq : IsP q) (h : p ≠ q) (h1 : a % p = b % p) (h2 : a % q = b % q) : a % (p * q) = b % (p * q) := by
 have key : ∀ a b, b ≤ a → a % p = b % p → a % q = b % q → a % (p * q) = b % (p * q) := fun a b hb h1 h2 => by
  obtain ⟨t, ht⟩ := Nat.Coprime.mul_dvd_of_dvd_of_dvd (hp.cop hq h) (dvd_mod h1 hb) (dvd_mod h2 hb)
  rw[show a = b + p * q * t by omega, Nat.add_mul_mod_self_left]
 rcases Nat.le_total b a with g | g
 ·exact key a b g h1 h2
 ·exact (key b a g h1.symm h2.symm).symm
theorem undo {p q m e d j k : Nat} (hp : IsP p) (hq : IsP q) (h : p ≠ q) (h1 : d * e = 1 + (p - 1) * j) (h2 : d * e = 1 + (q - 1) * k) : (m ^ d) ^ e % (p * q) = m % (p * q) := by
 rw[← Nat.pow_mul]
 exact crt hp hq h (und hp h1) (und hq h2)
end Go.Proofs.YtcgplgpdcfocpaaGreatDoor.Pr
end
section
namespace Go.Proofs.YtcgplgpdcfocpaaGreatDoor.Der
open Go Go.RowKit Go.Proofs Go.Proofs.YtcgplgpdcfocpaaGreatDoor.Eng Go.Proofs.YtcgplgpdcfocpaaGreatDoor.Code
attribute [local irreducible] callK S.W opsW scrW scrT
open Go.Proofs.YtcgplgpdcfocpaaGreatDoor.Spec Go.Proofs.YtcgplgpdcfocpaaGreatDoor.Big
attribute [local irreducible] checkR
theorem emp (a m : Int) (n : Nat) : (a % m) ^ n % m = a ^ n % m := by
 induction n with
 | zero => rw[Int.pow_zero,Int.pow_zero]
 | succ n ih => rw[Int.pow_succ,Int.pow_succ,Int.mul_emod,ih,Int.emod_emod,← Int.mul_emod]
structure Key (N E D : List Int) (k : Nat) : Prop where
 lN : Lim N
 lD : Lim D
 nN : N.length ≤ 64
 nE : E.length ≤ 64
 nD : D.length ≤ 64
 chk : checkR N E = 0
 bits : bl (val N) = 8 * k
 small : 0 < k ∧ k ≤ 1024
 un : ∀ x : Int, 0 ≤ x → x < val N → (x ^ (val D).toNat) ^ (val E).toNat % val N = x
theorem Key.size {N E D : List Int} {k : Nat} (K : Key N E D k) : sizeK N E = k := by
 unfold sizeK
 rw[if_neg (by rw [K.chk]; decide),K.bits]
 omega
theorem Key.top {N E D : List Int} {k : Nat} (K : Key N E D k) : val N < 256 ^ k ∧ 256 ^ (k - 1) < val N := by
 have b0 := (val_bd K.lN).1
 have h1 := (bl_le b0 (k := 8 * k)).1 (by rw[K.bits]; exact Nat.le_refl _)
 have hk := K.small
 have h2 : ¬ val N < 2 ^ (8 * (k - 1) + 1) := fun h => by
  have := (bl_le b0).2 h
  rw[K.bits] at this
  omega
 refine ⟨by rw[p8_p2]; exact h1, ?_⟩
 rw[p8_p2]
 rw[Int.pow_succ] at h2
 have : (0 : Int) < 2 ^ (8 * (k - 1)) := Int.pow_pos (by decide)
 omega
theorem Key.pos {N E D : List Int} {k : Nat} (K : Key N E D k) : 0 < val N := Int.lt_trans (Int.pow_pos (by decide)) K.top.2
theorem byt_lim {P : List Int} {k : Nat} (hP : Byt P) (hl : P.length = k) (hk : k ≤ 1024) : (limbs (bv P)).length ≤ 256 := by
 rw[limbs_len (bv_bd hP).1]
 refine Int.lt_of_lt_of_le (bv_bd hP).2 ?_
 rw[p8_pw,p8_p2,p8_p2]
 exact p2_mono (by omega)
def sigP (N D : List Int) (k : Nat) (P : List Int) : List Int := bvs k (bv P ^ (val D).toNat % val N)
theorem sgn_bd {N E D : List Int} {k : Nat} (K : Key N E D k) (P : List Int) : 0 ≤ bv P ^ (val D).toNat % val N ∧ bv P ^ (val D).toNat % val N < val N := ⟨Int.emod_nonneg _ (by have := K.pos; omega), Int.emod_lt_of_pos _ K.pos⟩
theorem pow_of {b E N : List Int} (h1 : b.length ≤ 512) (h2 : E.length ≤ 256) (h3 : N.length ≤ 256) (h : 0 < val N) : powR b E N = (limbs (val b ^ (val E).toNat % val N), 0) := by
 unfold powR
 rw[if_neg (by omega),if_neg (by omega)]
theorem tb_of {N : List Int} {E D : List Int} {k : Nat} (K : Key N E D k) {v : Int} (h0 : 0 ≤ v) (h1 : v < val N) : tbR (limbs v) k = (bvs k v, 0) := by
 have hl : (limbs v).length ≤ 256 := by
  have := len_mono h0 (Int.le_of_lt h1)
  have := len_val K.lN
  have := K.nN
  omega
 have hk := K.small
 unfold tbR
 rw[limbs_val h0,if_neg (by omega),if_neg (by omega),if_neg]
 ·rfl
 ·have : bl v ≤ bl (val N) := (bl_le h0).2 (Int.lt_trans h1 ((bl_le (by omega)).1 (Nat.le_refl _)))
  have := K.bits
  omega
theorem fb_of {P : List Int} {k : Nat} (hl : P.length = k) (hk : k ≤ 1024) : fbR P = (limbs (bv P), 0) := by
 unfold fbR
 rw[if_neg (by omega)]
theorem Key.sign {N E D : List Int} {k : Nat} (K : Key N E D k) {P : List Int} (hP : Byt P) (hl : P.length = k) : (tbR (powR (fbR P).1 D N).1 k) = (sigP N D k P, 0) := by
 have hk := K.small
 have := byt_lim hP hl hk.2
 have := K.nN
 have := K.nD
 rw[fb_of hl hk.2,pow_of (by show (limbs _).length ≤ _; omega) (by omega) (by omega) K.pos]
 show tbR (limbs _) k = _
 rw[limbs_val (bv_bd hP).1,tb_of K (sgn_bd K P).1 (sgn_bd K P).2]
 rfl
theorem Key.raw {N E D : List Int} {k : Nat} (K : Key N E D k) {s : List Int} (hs : Byt s) (hl : s.length = k) : rawR N E s = if bv s < val N then (bvs k (bv s ^ (val E).toNat % val N), 0) else ([], 112) := by
 have hk := K.small
 have h1 := byt_lim hs hl hk.2
 have := K.nN
 have := K.nE
 unfold rawR
 rw[K.size,if_neg (by omega),if_neg (by rw [hl]; simp),fb_of hl hk.2]
 show (if ¬ val (limbs _) < _ then _ else _) = _
 rw[limbs_val (bv_bd hs).1]
 by_cases h : bv s < val N
 ·rw[if_neg (by simpa using h),if_pos h,pow_of (by show (limbs _).length ≤ _; omega) (by omega) (by omega) K.pos]
  show ((tbR (limbs _) k).1, 0) = _
  rw[limbs_val (bv_bd hs).1,tb_of K (Int.emod_nonneg _ (by have := K.pos; omega)) (Int.emod_lt_of_pos _ K.pos)]
 ·rw[if_pos h,if_neg h]
theorem sgn_len (N D : List Int) (k : Nat) (P : List Int) : (sigP N D k P).length = k := bvs_len _ _
theorem sgn_byt (N D : List Int) (k : Nat) (P : List Int) : Byt (sigP N D k P) := bvs_byt _ _
theorem Key.only {N E D : List Int} {k : Nat} (K : Key N E D k) {P s : List Int} (hP : Byt P) (hs : Byt s) (hl : s.length = k) (h : rawR N E s = (P, 0)) : s = sigP N D k P := by
 rw[K.raw hs hl] at h
 by_cases hb : bv s < val N
 ·rw[if_pos hb] at h
  have e : P = bvs k (bv s ^ (val E).toNat % val N) := (congrArg Prod.fst h).symm
  have hz := Int.emod_nonneg (bv s ^ (val E).toNat) (show val N ≠ 0 by have := K.pos; omega)
  have ht := Int.emod_lt_of_pos (bv s ^ (val E).toNat) K.pos
  have e2 : bv P = bv s ^ (val E).toNat % val N := by
   rw[e]
   exact bv_bvs hz (Int.lt_trans ht K.top.1)
  have e3 : bv P ^ (val D).toNat % val N = bv s := by
   rw[e2,emp,← Int.pow_mul,Nat.mul_comm,Int.pow_mul]
   exact K.un _ (bv_bd hs).1 hb
  unfold sigP
  rw[e3,← hl,bvs_bv hs]
 ·rw[if_neg hb] at h
  have := congrArg Prod.snd h
  exact absurd this (by show ¬ (112 : Int) = 0; decide)
open Go.Proofs.YtcgplgpdcfocpaaGreatDoor.Pr in
theorem un_of {N E D : List Int} {p q j l : Nat} (hp : IsP p) (hq : IsP q) (hne : p ≠ q) (hN : val N = ((p * q : Nat) : Int)) (h1 : (val D).toNat * (val E).toNat = 1 + (p - 1) * j) (h2 : (val D).toNat * (val E).toNat = 1 + (q - 1) * l) (x : Int) (h0 : 0 ≤ x) (hx : x < val N) : (x ^ (val D).toNat) ^ (val E).toNat % val N = x := by
 obtain ⟨n, rfl⟩ := Int.eq_ofNat_of_zero_le h0
 have u := undo (m := n) hp hq hne h1 h2
 rw[hN] at hx ⊢
 have hn : n < p * q := by exact_mod_cast hx
 rw[Nat.mod_eq_of_lt hn] at u
 exact_mod_cast congrArg (fun t : Nat => (t : Int)) u
end Go.Proofs.YtcgplgpdcfocpaaGreatDoor.Der
end
section
namespace Go.Proofs.YtcgplgpdcfocpaaGreatDoor.Der
open Go Go.RowKit Go.Proofs Go.Proofs.YtcgplgpdcfocpaaGreatDoor.Eng Go.Proofs.YtcgplgpdcfocpaaGreatDoor.Code
attribute [local irreducible] callK S.W opsW scrW scrT
open Go.Proofs.YtcgplgpdcfocpaaGreatDoor.Spec Go.Proofs.YtcgplgpdcfocpaaGreatDoor.Big
attribute [local irreducible] checkR sizeK rawR padR putR headR oidP
theorem bytes_back : ∀ {l : List Int}, Byt l → ((l.map fun n => UInt8.ofNat n.toNat).map fun u => (u.toNat : Int)) = l
 | [], _ => rfl
 | x :: r, h => by
  have hx := h.cons
  rw[List.map_cons,List.map_cons,bytes_back hx.2]
  congr 1
  have : (UInt8.ofNat x.toNat).toNat = x.toNat := by
   rw[UInt8.toNat_ofNat']
   exact Nat.mod_eq_of_lt (by omega)
  omega
theorem str_eq {a b : List Int} (ha : Byt a) (hb : Byt b) : ((strOfNums a).toList == (strOfNums b).toList) = decide (a = b) := by
 have e : ∀ l : List Int, (strOfNums l).toList = l.map fun n => UInt8.ofNat n.toNat := fun l => S_toList _
 rw[e,e]
 by_cases h : a = b
 ·rw[h,decide_eq_true rfl,beq_self_eq_true]
 ·rw[decide_eq_false h,beq_eq_false_iff_ne]
  intro g
  apply h
  rw[← bytes_back ha,g,bytes_back hb]
theorem equal_k {w : World} {va vb : Value} {l r : List Int} (ha : Vw .u8 w va l) (hb : Vw .u8 w vb r) (bl : Byt l) (br : Byt r) {K : Value → World → Prop} (hK : K (.bool (decide (l = r))) w) : callK Tryz.prog 28 [va, vb] w K := by
 refine call_of Tryz.func28 Code.h28 (by simp[Code.c28]) ?_
 obtain ⟨A, c, rfl, hc, hr⟩ := ha
 obtain ⟨B, d, rfl, hd, hs⟩ := hb
 simp(disch:=omega)only[Zu,Zv,Zx,Zz,EZ,↓EP,↓reduceIte,Za,Zb,Zc,Zd,Ze,Zf,Zg,Zj,Zk,Zl,Zm,Zn,Zp,Zq,reduceCtorEq,Code.c28,↓i_cvbsJ]
 refine cvbs_k hr rfl ?_
 simp(disch:=omega)only[Zu,Zv,Zx,Zz,EZ,↓EP,↓reduceIte,Za,Zb,Zc,Zd,Ze,Zf,Zg,Zj,Zk,Zl,Zm,Zn,Zp,Zq,reduceCtorEq,↓i_cvbsJ]
 refine cvbs_k hs rfl ?_
 simp(disch:=omega)only[Zu,Zv,Zx,Zz,EZ,↓EP,↓reduceIte,Za,Zb,Zc,Zd,Ze,Zf,Zg,Zj,Zk,Zl,Zm,Zn,Zp,Zq,reduceCtorEq,b_seql,str_eq bl br]
 exact hK
def nameP (alg : Int) : List Int := (putR 0 16 true [(putR 0 6 false [oidP alg]).1, (putR 0 5 false []).1]).1
def preI (alg : Int) (h : Nat) : List Int := headR 0 16 true ((nameP alg).length + ((headR 0 4 false h).length + h)) ++ (nameP alg ++ headR 0 4 false h)
theorem name_len (alg : Int) : (nameP alg).length ≤ 81 := by
 have a := putR_len 0 16 true [(putR 0 6 false [oidP alg]).1, (putR 0 5 false []).1]
 have c := putR_len 0 6 false [oidP alg]
 have d := putR_len 0 5 false []
 have o := oid_len alg
 simp only[List.map_cons,List.map_nil,List.sum_cons,List.sum_nil] at a c d
 unfold nameP
 omega
theorem put_ok {tag : Int} {cons : Bool} {ls : List (List Int)} (h : 0 < tag ∧ tag ≤ 268435455) (hl : (ls.map List.length).sum ≤ 16777216) : (putR 0 tag cons ls).1 = headR 0 tag cons (ls.map List.length).sum ++ ls.flatten := by
 unfold putR
 rw[if_neg (by omega),if_neg (by omega)]
theorem info_pre {alg : Int} {sum : List Int} (h : sum.length ≤ 64) : infoR alg sum = preI alg sum.length ++ sum := by
 have e4 : (putR 0 4 false [sum]).1 = headR 0 4 false sum.length ++ sum := by
  rw[put_ok (by omega) (by simp; omega)]
  simp
 have hn := name_len alg
 have l4 := putR_len 0 4 false [sum]
 simp only[List.map_cons,List.map_nil,List.sum_cons,List.sum_nil] at l4
 unfold infoR
 show (putR 0 16 true [nameP alg, (putR 0 4 false [sum]).1]).1 = _
 rw[put_ok (by omega) (by simp only [List.map_cons,List.map_nil,List.sum_cons,List.sum_nil]; omega),e4]
 unfold preI
 simp[List.append_assoc]
end Go.Proofs.YtcgplgpdcfocpaaGreatDoor.Der
end
section
namespace Go.Proofs.YtcgplgpdcfocpaaGreatDoor.Der
open Go Go.RowKit Go.Proofs Go.Proofs.YtcgplgpdcfocpaaGreatDoor.Eng Go.Proofs.YtcgplgpdcfocpaaGreatDoor.Code
attribute [local irreducible] callK S.W opsW scrW scrT
open Go.Proofs.YtcgplgpdcfocpaaGreatDoor.Spec Go.Proofs.YtcgplgpdcfocpaaGreatDoor.Big
theorem pre_byt1 : Byt (preI 1 20) := by unfold Byt; decide +kernel
theorem pre_byt2 : Byt (preI 2 32) := by unfold Byt; decide +kernel
theorem pre_byt3 : Byt (preI 3 48) := by unfold Byt; decide +kernel
theorem pre_byt4 : Byt (preI 4 64) := by unfold Byt; decide +kernel
theorem alg_or {alg : Int} (h : sizeI alg ≠ 0) : (alg = 1 ∧ sizeI alg = 20) ∨ (alg = 2 ∧ sizeI alg = 32) ∨ (alg = 3 ∧ sizeI alg = 48) ∨ (alg = 4 ∧ sizeI alg = 64) := by
 unfold sizeI at h ⊢
 grind
theorem pre_byt {alg : Int} {h : Nat} (e : sizeI alg ≠ 0) (eh : (h : Int) = sizeI alg) : Byt (preI alg h) := by
 rcases alg_or e with ⟨rfl, g⟩ | ⟨rfl, g⟩ | ⟨rfl, g⟩ | ⟨rfl, g⟩
 ·obtain rfl : h = 20 := by omega
  exact pre_byt1
 ·obtain rfl : h = 32 := by omega
  exact pre_byt2
 ·obtain rfl : h = 48 := by omega
  exact pre_byt3
 ·obtain rfl : h = 64 := by omega
  exact pre_byt4
theorem pad_byt {alg n : Int} {sum : List Int} (hs : Byt sum) : Byt (padR alg sum n).1 := by
 unfold padR
 split
 ·exact Byt.nil
 ·rename_i h
  have hz := sizeI_nn alg
  split
  ·exact Byt.nil
  ·show Byt (_ ++ _ ++ _ ++ infoR alg sum)
   rw[info_pre (by omega)]
   refine ((Byt.app (Byt.app ?_ ?_) ?_)).app ((pre_byt (by omega) (by omega)).app hs)
   ·exact (Byt.nil.mk (x := 1) (by decide) (by decide)).mk (by decide) (by decide)
   ·intro x hx
    have := (List.mem_replicate.1 hx).2
    omega
   ·exact Byt.nil.mk (by decide) (by decide)
theorem raw_byt {N E sig : List Int} : Byt (rawR N E sig).1 := by
 unfold rawR
 split
 ·exact Byt.nil
 split
 ·exact Byt.nil
 split
 ·exact Byt.nil
 ·show Byt (tbR _ _).1
  unfold tbR
  split
  ·exact Byt.nil
  split
  ·exact Byt.nil
  split
  ·exact Byt.nil
  ·exact bvs_byt _ _
theorem rawR_len {N E sig : List Int} : (rawR N E sig).1.length ≤ 2048 := by
 unfold rawR
 split
 ·simp
 split
 ·simp
 split
 ·simp
 ·show ((tbR _ _).1).length ≤ _
  unfold tbR
  split
  ·simp
  split
  ·simp
  split
  ·simp
  ·show (bvs _ _).length ≤ _
   rw[bvs_len]
   omega
end Go.Proofs.YtcgplgpdcfocpaaGreatDoor.Der
end
section
namespace Go.Proofs.YtcgplgpdcfocpaaGreatDoor.Der
open Go Go.RowKit Go.Proofs Go.Proofs.YtcgplgpdcfocpaaGreatDoor.Eng Go.Proofs.YtcgplgpdcfocpaaGreatDoor.Code
attribute [local irreducible] callK S.W opsW scrW scrT
open Go.Proofs.YtcgplgpdcfocpaaGreatDoor.Spec Go.Proofs.YtcgplgpdcfocpaaGreatDoor.Big
attribute [local irreducible] checkR sizeK rawR padR
def verR (N E : List Int) (alg : Int) (sum sig : List Int) : Int :=
 if sizeI alg = 0 ∨ (sum.length : Int) ≠ sizeI alg then 1
 else if (rawR N E sig).2 ≠ 0 then (rawR N E sig).2
 else if (padR alg sum ((rawR N E sig).1.length : Nat)).2 ≠ 0 ∨ (padR alg sum ((rawR N E sig).1.length : Nat)).1 ≠ (rawR N E sig).1 then 112 else 0
set_option maxHeartbeats 8000000 in
theorem verify_k {w : World} {vN vE v v2 : Value} {N E sig sum : List Int} {alg : Int} (hN : Vw .u32 w vN N) (hE : Vw .u32 w vE E) (lN : Lim N) (lE : Lim E) (nN : N.length ≤ 4194304) (nE : E.length ≤ 4194304) (hv : Vw .u8 w v sum) (hb : Byt sum) (h63 : sum.length ≤ 9223372036854775807) (hv2 : Vw .u8 w v2 sig) (hb2 : Byt sig) (h64 : sig.length ≤ 9223372036854775807) {K : Value → World → Prop}
  (hK : ∀ w', Fr w w' nob → K (.int .i64 (verR N E alg sum sig)) w') : callK Tryz.prog 11 [.agg #[vN, vE], .int .i64 alg, v, v2] w K := by
 refine call_of Tryz.func11 Code.h11 (by simp[Code.c11]) ?_
 have hN0 := hN
 have hE0 := hE
 have hv0 := hv
 have hv20 := hv2
 obtain ⟨A, c, rfl, hc, hr⟩ := hN0
 obtain ⟨B, d, rfl, hd, hs⟩ := hE0
 obtain ⟨D, q, rfl, hq, ht⟩ := hv0
 obtain ⟨D2, q2, rfl, hq2, ht2⟩ := hv20
 have hz := sizeI_nn alg
 have hrl := rawR_len (N := N) (E := E) (sig := sig)
 simp(disch:=omega)only[Zu,Zv,Zx,Zz,EZ,↓EP,↓reduceIte,Za,Zb,Zc,Zd,Ze,Zf,Zg,Zj,Zk,Zl,Zm,Zn,Zp,Zq,reduceCtorEq,Code.c11]
 refine al_k [.slice A N.length c, .slice B E.length d] rfl fun w1 n1 => ?_
 have f1 := n1.fr nob
 simp(disch:=omega)only[Zu,Zv,Zx,Zz,EZ,↓EP,↓reduceIte,Za,Zb,Zc,Zd,Ze,Zf,Zg,Zj,Zk,Zl,Zm,Zn,Zp,Zq,reduceCtorEq]
 refine known_k h63 ?_
 by_cases c0 : 0 < sizeI alg ∧ (sum.length : Int) = sizeI alg
 rotate_left
 ·have : (decide (0 < sizeI alg) && decide ((sum.length : Int) = sizeI alg)) = false := by
   by_cases h : 0 < sizeI alg
   ·have : ¬ (sum.length : Int) = sizeI alg := fun e => c0 ⟨h, e⟩
    simp[this]
   ·simp[h]
  rw[this]
  have e : verR N E alg sum sig = 1 := if_pos (by omega)
  rw[e] at hK
  simp(disch:=omega)only[Zu,Zv,Zx,Zz,EZ,↓EP,↓reduceIte,Za,Zb,Zc,Zd,Ze,Zf,Zg,Zj,Zk,Zl,Zm,Zn,Zp,Zq,reduceCtorEq,Bool.not_false]
  exact hK _ f1
 obtain ⟨c1, c2⟩ := c0
 rw[decide_eq_true c1,decide_eq_true c2,Bool.true_and]
 simp(disch:=omega)only[Zu,Zv,Zx,Zz,EZ,↓EP,↓reduceIte,Za,Zb,Zc,Zd,Ze,Zf,Zg,Zj,Zk,Zl,Zm,Zn,Zp,Zq,reduceCtorEq,Bool.not_true]
 refine n1.blk.ldAgg rfl ?_
 simp(disch:=omega)only[Zu,Zv,Zx,Zz,EZ,↓EP,↓reduceIte,Za,Zb,Zc,Zd,Ze,Zf,Zg,Zj,Zk,Zl,Zm,Zn,Zp,Zq,reduceCtorEq]
 refine raw_k (hN.nb f1) (hE.nb f1) lN lE nN nE (hv2.nb f1) hb2 h64 fun v3 w3 g3 => ?_
 obtain ⟨A3, c3, rfl, hc3, hr3, _⟩ := g3.sl.read
 have f13 := f1.nb g3.fr
 by_cases h0 : (rawR N E sig).2 = 0
 rotate_left
 ·have e : verR N E alg sum sig = (rawR N E sig).2 := by unfold verR; rw[if_neg (by omega),if_pos h0]
  rw[e] at hK
  simp(disch:=omega)only[Zu,Zv,Zx,Zz,EZ,↓EP,↓reduceIte,Za,Zb,Zc,Zd,Ze,Zf,Zg,Zj,Zk,Zl,Zm,Zn,Zp,Zq,reduceCtorEq,pr2,h0]
  exact hK _ f13
 simp(disch:=omega)only[Zu,Zv,Zx,Zz,EZ,↓EP,↓reduceIte,Za,Zb,Zc,Zd,Ze,Zf,Zg,Zj,Zk,Zl,Zm,Zn,Zp,Zq,reduceCtorEq,pr2,h0]
 refine pad_k (n := ((rawR N E sig).1.length : Nat)) (by omega) (hv.nb f13) h63 fun v4 w4 g4 => ?_
 obtain ⟨A4, c4, rfl, hc4, hr4, _⟩ := g4.sl.read
 have f14 := f13.nb g4.fr
 by_cases h1 : (padR alg sum ((rawR N E sig).1.length : Nat)).2 = 0
 rotate_left
 ·have e : verR N E alg sum sig = 112 := by unfold verR; rw[if_neg (by omega),if_neg (by omega),if_pos (.inl h1)]
  rw[e] at hK
  simp(disch:=omega)only[Zu,Zv,Zx,Zz,EZ,↓EP,↓reduceIte,Za,Zb,Zc,Zd,Ze,Zf,Zg,Zj,Zk,Zl,Zm,Zn,Zp,Zq,reduceCtorEq,pr2,h1]
  exact hK _ f14
 simp(disch:=omega)only[Zu,Zv,Zx,Zz,EZ,↓EP,↓reduceIte,Za,Zb,Zc,Zd,Ze,Zf,Zg,Zj,Zk,Zl,Zm,Zn,Zp,Zq,reduceCtorEq,pr2,h1]
 refine equal_k g4.vw (g3.vw.nb g4.fr) (pad_byt hb) raw_byt ?_
 by_cases h2 : (padR alg sum ((rawR N E sig).1.length : Nat)).1 = (rawR N E sig).1
 ·have e : verR N E alg sum sig = 0 := by unfold verR; rw[if_neg (by omega), if_neg (by omega), if_neg (fun g => g.elim (fun x => x h1) (fun x => x h2))]
  rw[e] at hK
  rw[decide_eq_true h2]
  simp(disch:=omega)only[Zu,Zv,Zx,Zz,EZ,↓EP,↓reduceIte,Za,Zb,Zc,Zd,Ze,Zf,Zg,Zj,Zk,Zl,Zm,Zn,Zp,Zq,reduceCtorEq,Bool.not_true]
  exact hK _ f14
 ·have e : verR N E alg sum sig = 112 := by unfold verR; rw[if_neg (by omega),if_neg (by omega),if_pos (.inr h2)]
  rw[e] at hK
  rw[decide_eq_false h2]
  simp(disch:=omega)only[Zu,Zv,Zx,Zz,EZ,↓EP,↓reduceIte,Za,Zb,Zc,Zd,Ze,Zf,Zg,Zj,Zk,Zl,Zm,Zn,Zp,Zq,reduceCtorEq,Bool.not_false]
  exact hK _ f14
end Go.Proofs.YtcgplgpdcfocpaaGreatDoor.Der
end
section
namespace Go.Proofs.YtcgplgpdcfocpaaGreatDoor.Der
open Go Go.RowKit Go.Proofs Go.Proofs.YtcgplgpdcfocpaaGreatDoor.Eng Go.Proofs.YtcgplgpdcfocpaaGreatDoor.Code
attribute [local irreducible] callK S.W opsW scrW scrT
open Go.Proofs.YtcgplgpdcfocpaaGreatDoor.Spec Go.Proofs.YtcgplgpdcfocpaaGreatDoor.Big
attribute [local irreducible] checkR sizeK rawR infoR
theorem pad_form {alg : Int} {sum : List Int} {k : Nat} (h : (padR alg sum k).2 = 0) : sizeI alg ≠ 0 ∧ (sum.length : Int) = sizeI alg ∧ ∃ r : List Int, (padR alg sum k).1 = [0] ++ (r ++ sum) ∧ r.length + sum.length + 1 = k := by
 have hz := sizeI_nn alg
 unfold padR at h ⊢
 split at h
 ·exact absurd h (by decide)
 ·rename_i c
  rw[if_neg c]
  split at h
  ·exact absurd h (by decide)
  ·rename_i c2
   rw[if_neg c2]
   have e := info_pre (alg := alg) (sum := sum) (by omega)
   refine ⟨by omega, by omega, [1] ++ List.replicate ((k : Int).toNat - (infoR alg sum).length - 3) 255 ++ [0] ++ preI alg sum.length, ?_, ?_⟩
   ·show [0, 1] ++ List.replicate _ 255 ++ [0] ++ infoR alg sum = _
    generalize hj : (k : Int).toNat - (infoR alg sum).length - 3 = j
    rw[e]
    simp
   ·have el : (infoR alg sum).length = (preI alg sum.length).length + sum.length := by rw[e]; simp
    simp only[List.length_append,List.length_replicate,List.length_cons,List.length_nil]
    omega
theorem pad_len {alg : Int} {sum : List Int} {k : Nat} (h : (padR alg sum k).2 = 0) : (padR alg sum k).1.length = k := by
 obtain ⟨_, _, r, e, hl⟩ := pad_form h
 rw[e]
 simp only[List.length_append,List.length_cons,List.length_nil]
 omega
theorem ver_other {N E D : List Int} {k : Nat} (K : Key N E D k) {alg : Int} {a s : List Int} (ha : Byt a) (h : (padR alg a k).2 = 0) (hs : Byt s) (hl : s.length = k) (hn : s ≠ sigP N D k (padR alg a k).1) : verR N E alg a s = 112 := by
 obtain ⟨z, la, _⟩ := pad_form h
 have hr := K.raw hs hl
 have ho := K.only (P := (padR alg a k).1) (s := s) (pad_byt ha) hs hl
 unfold verR
 rw[if_neg (by omega)]
 by_cases hb : bv s < val N
 ·rw[if_pos hb] at hr
  have h2 : (rawR N E s).2 = 0 := by rw[hr]
  have h1 : (rawR N E s).1.length = k := by rw[hr]; exact bvs_len _ _
  rw[if_neg (by omega),h1,if_pos]
  refine .inr fun e => hn (ho ?_)
  rw[e,← h2]
 ·rw[if_neg hb] at hr
  rw[hr,if_pos (by decide)]
end Go.Proofs.YtcgplgpdcfocpaaGreatDoor.Der
end
section
namespace Go.Proofs.YtcgplgpdcfocpaaGreatDoor.Der
open Go Go.RowKit Go.Proofs Go.Proofs.YtcgplgpdcfocpaaGreatDoor.Eng Go.Proofs.YtcgplgpdcfocpaaGreatDoor.Code
attribute [local irreducible] callK S.W opsW scrW scrT
open Go.Proofs.YtcgplgpdcfocpaaGreatDoor.Spec Go.Proofs.YtcgplgpdcfocpaaGreatDoor.Big
attribute [local irreducible] checkR sizeK powR tbR fbR padR
def signR (N D : List Int) (k : Nat) (alg : Int) (sum : List Int) : List Int := if (padR alg sum k).2 = 0 then sigP N D k (padR alg sum k).1 else []
structure KnOf (i : Int) (N E D : List Int) (n k : Nat) : Prop where
 key : Key N E D k
 lN : N.length = n
 lE : E.length = 1
 lD : D.length = n
 limE : Lim E
 run : ∀ {w : World} {K : Value → World → Prop}, (∀ A B C w', Rd w' A (nums .u32 N) → Rd w' B (nums .u32 E) → Rd w' C (nums .u32 D) → Fr w w' nob → K (.tuple #[.agg #[.slice A n n, .slice B 1 1], .slice C n n]) w') → callK Tryz.prog 15 [.int .i64 i] w K
set_option maxHeartbeats 8000000 in
theorem sign_k {w : World} {v : Value} {i alg : Int} {N E D sum : List Int} {n k : Nat} (kn : KnOf i N E D n k) (hv : Vw .u8 w v sum) (hb : Byt sum) (h63 : sum.length ≤ 9223372036854775807) {K : Value → World → Prop}
  (hK : ∀ v' w', Gw .u8 w w' v' (signR N D k alg sum) → K v' w') : callK Tryz.prog 17 [.int .i64 i, .int .i64 alg, v] w K := by
 refine call_of Tryz.func17 Code.h17 (by simp[Code.c17]) ?_
 have hv0 := hv
 obtain ⟨F, q, rfl, hq, hu⟩ := hv0
 have Ky := kn.key
 have nN : N.length ≤ 4194304 := Nat.le_trans Ky.nN (by decide)
 have nE : E.length ≤ 4194304 := Nat.le_trans Ky.nE (by decide)
 have hk := Ky.small
 simp(disch:=omega)only[Zu,Zv,Zx,Zz,EZ,↓EP,↓reduceIte,Za,Zb,Zc,Zd,Ze,Zf,Zg,Zj,Zk,Zl,Zm,Zn,Zp,Zq,reduceCtorEq,Code.c17]
 refine kn.run fun A B C w1 hA hB hC f1 => ?_
 simp(disch:=omega)only[Zu,Zv,Zx,Zz,EZ,↓EP,↓reduceIte,Za,Zb,Zc,Zd,Ze,Zf,Zg,Zj,Zk,Zl,Zm,Zn,Zp,Zq,reduceCtorEq]
 refine al_k [.slice none 0 0, .slice none 0 0] rfl fun w2 n2 => ?_
 simp(disch:=omega)only[Zu,Zv,Zx,Zz,EZ,↓EP,↓reduceIte,Za,Zb,Zc,Zd,Ze,Zf,Zg,Zj,Zk,Zl,Zm,Zn,Zp,Zq,reduceCtorEq]
 refine st_whole (cs := [.slice A n n, .slice B 1 1]) n2.blk rfl rfl (by simp; exact ⟨rfl, rfl⟩) fun w3 p3 => ?_
 have hz2 := n2.size
 have f13 : Fr w1 w3 nob := (n2.fr nob).trans p3.fr fun x hx e => by omega
 have f03 := f1.nb f13
 have hN : Vw .u32 w3 (.slice A n n) N := Vw.of kn.lN (Nat.le_refl n) (hA.nb f13)
 have hE : Vw .u32 w3 (.slice B 1 1) E := Vw.of kn.lE (Nat.le_refl 1) (hB.nb f13)
 have hD : Vw .u32 w3 (.slice C n n) D := Vw.of kn.lD (Nat.le_refl n) (hC.nb f13)
 simp(disch:=omega)only[Zu,Zv,Zx,Zz,EZ,↓EP,↓reduceIte,Za,Zb,Zc,Zd,Ze,Zf,Zg,Zj,Zk,Zl,Zm,Zn,Zp,Zq,reduceCtorEq]
 refine p3.blk.ldAgg rfl ?_
 simp(disch:=omega)only[Zu,Zv,Zx,Zz,EZ,↓EP,↓reduceIte,Za,Zb,Zc,Zd,Ze,Zf,Zg,Zj,Zk,Zl,Zm,Zn,Zp,Zq,reduceCtorEq]
 refine rsizek_k hN hE Ky.lN kn.limE nN nE fun w4 f4 => ?_
 rw[Ky.size]
 simp(disch:=omega)only[Zu,Zv,Zx,Zz,EZ,↓EP,↓reduceIte,Za,Zb,Zc,Zd,Ze,Zf,Zg,Zj,Zk,Zl,Zm,Zn,Zp,Zq,reduceCtorEq]
 refine rpad_k (n := (k : Int)) (by omega) (hv.nb (f03.nb f4)) h63 fun v5 w5 g5 => ?_
 obtain ⟨A5, c5, rfl, hc5, hr5, _⟩ := g5.sl.read
 have f05 := (f03.nb f4).nb g5.fr
 by_cases h0 : (padR alg sum (k : Int)).2 = 0
 rotate_left
 ·have e : signR N D k alg sum = [] := if_neg h0
  rw[e] at hK
  simp(disch:=omega)only[Zu,Zv,Zx,Zz,EZ,↓EP,↓reduceIte,Za,Zb,Zc,Zd,Ze,Zf,Zg,Zj,Zk,Zl,Zm,Zn,Zp,Zq,reduceCtorEq,pr2,h0]
  exact hK _ _ ⟨Sl.nil _ _, (fun b e => by cases e), f05⟩
 simp(disch:=omega)only[Zu,Zv,Zx,Zz,EZ,↓EP,↓reduceIte,Za,Zb,Zc,Zd,Ze,Zf,Zg,Zj,Zk,Zl,Zm,Zn,Zp,Zq,reduceCtorEq,pr2,h0]
 refine (p3.blk.nb (f4.nb g5.fr)).ldAgg rfl ?_
 simp(disch:=omega)only[Zu,Zv,Zx,Zz,EZ,↓EP,↓reduceIte,Za,Zb,Zc,Zd,Ze,Zf,Zg,Zj,Zk,Zl,Zm,Zn,Zp,Zq,reduceCtorEq]
 refine power_k (hN.nb (f4.nb g5.fr)) (hE.nb (f4.nb g5.fr)) (hD.nb (f4.nb g5.fr)) Ky.lN kn.limE Ky.lD nN nE g5.vw (pad_byt hb) fun v6 w6 g6 => ?_
 rw[Ky.size,Ky.sign (pad_byt hb) (pad_len h0)] at g6
 have e : signR N D k alg sum = sigP N D k (padR alg sum (k : Int)).1 := if_pos h0
 rw[e] at hK
 obtain ⟨A6, c6, rfl, hc6, hr6, _⟩ := g6.sl.read
 simp(disch:=omega)only[Zu,Zv,Zx,Zz,EZ,↓EP,↓reduceIte,Za,Zb,Zc,Zd,Ze,Zf,Zg,Zj,Zk,Zl,Zm,Zn,Zp,Zq,reduceCtorEq]
 refine hK _ _ ⟨g6.sl, fun b e => ?_, f05.nb g6.fr⟩
 have := g6.up b e
 have := f05.size
 omega
end Go.Proofs.YtcgplgpdcfocpaaGreatDoor.Der
end
section
namespace Go.Proofs.YtcgplgpdcfocpaaGreatDoor.Pr
structure Q4 where
 a : Nat
 b : Nat
 c : Nat
 d : Nat
namespace Q4
theorem ex {u v : Q4} (h1 : u.a = v.a) (h2 : u.b = v.b) (h3 : u.c = v.c) (h4 : u.d = v.d) : u = v := by
 cases u; cases v; simp only at h1 h2 h3 h4; rw[h1,h2,h3,h4]
def mul (u v : Q4) : Q4 := ⟨u.a * v.a + 2 * (u.b * v.d + u.c * v.c + u.d * v.b), u.a * v.b + u.b * v.a + 2 * (u.c * v.d + u.d * v.c), u.a * v.c + u.b * v.b + u.c * v.a + 2 * (u.d * v.d), u.a * v.d + u.b * v.c + u.c * v.b + u.d * v.a⟩
def add (u v : Q4) : Q4 := ⟨u.a + v.a, u.b + v.b, u.c + v.c, u.d + v.d⟩
def sc (n : Nat) (u : Q4) : Q4 := ⟨n * u.a, n * u.b, n * u.c, n * u.d⟩
def na (n : Nat) : Q4 := ⟨n, 0, 0, 0⟩
theorem mul_comm (u v : Q4) : mul u v = mul v u := by
 refine ex ?_ ?_ ?_ ?_ <;> simp only[mul,Nat.mul_comm,Nat.add_comm,Nat.add_left_comm,Nat.add_assoc]
theorem mul_assoc (u v w : Q4) : mul (mul u v) w = mul u (mul v w) := by
 refine ex ?_ ?_ ?_ ?_ <;> simp only[mul] <;> grind
theorem mul_add (u v w : Q4) : mul u (add v w) = add (mul u v) (mul u w) := by
 refine ex ?_ ?_ ?_ ?_ <;> simp only[mul,add,Nat.mul_add,Nat.add_mul,Nat.mul_assoc,Nat.mul_comm,Nat.mul_left_comm,Nat.add_comm,Nat.add_left_comm,Nat.add_assoc]
theorem mul_one (u : Q4) : mul u (na 1) = u := by
 refine ex ?_ ?_ ?_ ?_ <;> simp[mul,na]
theorem one_mul (u : Q4) : mul (na 1) u = u := by rw[mul_comm,mul_one]
theorem add_assoc (u v w : Q4) : add (add u v) w = add u (add v w) := by
 refine ex ?_ ?_ ?_ ?_ <;> simp only[add,Nat.add_assoc]
theorem add_comm (u v : Q4) : add u v = add v u := by
 refine ex ?_ ?_ ?_ ?_ <;> simp only[add,Nat.add_comm]
theorem add_zero (u : Q4) : add u (na 0) = u := rfl
theorem zero_add (u : Q4) : add (na 0) u = u := by rw[add_comm]; rfl
theorem mul_sc (n : Nat) (u v : Q4) : mul u (sc n v) = sc n (mul u v) := by
 refine ex ?_ ?_ ?_ ?_ <;> simp only[mul,sc,Nat.mul_add,Nat.mul_left_comm]
theorem sc_add (m n : Nat) (u : Q4) : sc (m + n) u = add (sc m u) (sc n u) := by
 refine ex ?_ ?_ ?_ ?_ <;> simp only[add,sc,Nat.add_mul]
theorem sc_one (u : Q4) : sc 1 u = u := by
 refine ex ?_ ?_ ?_ ?_ <;> simp only[sc,Nat.one_mul]
theorem sc_zero (u : Q4) : sc 0 u = na 0 := by
 refine ex ?_ ?_ ?_ ?_ <;> simp only[sc,na,Nat.zero_mul]
theorem mul_zero (u : Q4) : mul u (na 0) = na 0 := by
 refine ex ?_ ?_ ?_ ?_ <;> simp[mul,na]
def Eq (r : Nat) (u v : Q4) : Prop := u.a % r = v.a % r ∧ u.b % r = v.b % r ∧ u.c % r = v.c % r ∧ u.d % r = v.d % r
theorem Eq.rfl {r : Nat} {u : Q4} : Eq r u u := ⟨.refl _, .refl _, .refl _, .refl _⟩
theorem Eq.of {r : Nat} {u v : Q4} (h : u = v) : Eq r u v := h ▸ Eq.rfl
theorem Eq.symm {r : Nat} {u v : Q4} (h : Eq r u v) : Eq r v u := ⟨h.1.symm, h.2.1.symm, h.2.2.1.symm, h.2.2.2.symm⟩
theorem Eq.trans {r : Nat} {u v w : Q4} (h : Eq r u v) (k : Eq r v w) : Eq r u w := ⟨h.1.trans k.1, h.2.1.trans k.2.1, h.2.2.1.trans k.2.2.1, h.2.2.2.trans k.2.2.2⟩
theorem ma {r x y x' y' : Nat} (h : x % r = x' % r) (k : y % r = y' % r) : (x + y) % r = (x' + y') % r := by rw[Nat.add_mod,h,k,← Nat.add_mod]
theorem mm {r x y x' y' : Nat} (h : x % r = x' % r) (k : y % r = y' % r) : (x * y) % r = (x' * y') % r := by rw[Nat.mul_mod,h,k,← Nat.mul_mod]
theorem Eq.mul {r : Nat} {u v u' v' : Q4} (h : Eq r u u') (k : Eq r v v') : Eq r (mul u v) (mul u' v') := by
 obtain ⟨h1, h2, h3, h4⟩ := h
 obtain ⟨k1, k2, k3, k4⟩ := k
 exact ⟨ma (mm h1 k1) (mm (.refl _) (ma (ma (mm h2 k4) (mm h3 k3)) (mm h4 k2))), ma (ma (mm h1 k2) (mm h2 k1)) (mm (.refl _) (ma (mm h3 k4) (mm h4 k3))), ma (ma (ma (mm h1 k3) (mm h2 k2)) (mm h3 k1)) (mm (.refl _) (mm h4 k4)), ma (ma (ma (mm h1 k4) (mm h2 k3)) (mm h3 k2)) (mm h4 k1)⟩
theorem Eq.add {r : Nat} {u v u' v' : Q4} (h : Eq r u u') (k : Eq r v v') : Eq r (add u v) (add u' v') := ⟨ma h.1 k.1, ma h.2.1 k.2.1, ma h.2.2.1 k.2.2.1, ma h.2.2.2 k.2.2.2⟩
theorem Eq.dvd {r q : Nat} {u v : Q4} (h : Eq q u v) (d : r ∣ q) : Eq r u v := by
 have z : ∀ {x y : Nat}, x % q = y % q → x % r = y % r := fun e => by rw[← Nat.mod_mod_of_dvd _ d,e,Nat.mod_mod_of_dvd _ d]
 exact ⟨z h.1, z h.2.1, z h.2.2.1, z h.2.2.2⟩
def pw (u : Q4) : Nat → Q4
 | 0 => na 1
 | n+1 => mul (pw u n) u
theorem pw_one (u : Q4) : pw u 1 = u := one_mul u
theorem pw_add (u : Q4) (m : Nat) : ∀ n, pw u (m + n) = mul (pw u m) (pw u n)
 | 0 => (mul_one _).symm
 | n+1 => by
  show mul (pw u (m + n)) u = mul (pw u m) (mul (pw u n) u)
  rw[pw_add u m n,mul_assoc]
theorem pw_mul (u : Q4) (m : Nat) : ∀ n, pw u (m * n) = pw (pw u m) n
 | 0 => rfl
 | n+1 => by
  rw[Nat.mul_succ,pw_add,pw_mul u m n]
  rfl
theorem mul_pw (u v : Q4) : ∀ n, pw (mul u v) n = mul (pw u n) (pw v n)
 | 0 => rfl
 | n+1 => by
  show mul (pw (mul u v) n) (mul u v) = mul (mul (pw u n) u) (mul (pw v n) v)
  rw[mul_pw u v n,mul_assoc,mul_assoc,← mul_assoc (pw v n),mul_comm (pw v n) u,mul_assoc]
theorem Eq.pw {r : Nat} {u v : Q4} (h : Eq r u v) : ∀ n, Eq r (pw u n) (pw v n)
 | 0 => Eq.rfl
 | n+1 => (Eq.pw h n).mul h
theorem pw_na1 : ∀ n, pw (na 1) n = na 1
 | 0 => rfl
 | n+1 => by
  show mul (pw (na 1) n) (na 1) = na 1
  rw[pw_na1 n]
  rfl
theorem na_mul (m n : Nat) : mul (na m) (na n) = na (m * n) := by
 refine ex ?_ ?_ ?_ ?_ <;> simp[mul,na]
theorem pw_na (m : Nat) : ∀ n, pw (na m) n = na (m ^ n)
 | 0 => rfl
 | n+1 => by
  show mul (pw (na m) n) (na m) = _
  rw[pw_na m n,na_mul,Nat.pow_succ]
def sq (f : Nat → Q4) : Nat → Q4
 | 0 => na 0
 | m+1 => add (sq f m) (f m)
theorem sq_head (f : Nat → Q4) : ∀ m, sq f (m+1) = add (f 0) (sq (fun k => f (k+1)) m)
 | 0 => by
  show add (na 0) (f 0) = add (f 0) (na 0)
  rw[add_comm]
 | m+1 => by
  show add (sq f (m+1)) (f (m+1)) = add (f 0) (add (sq (fun k => f (k+1)) m) (f (m+1)))
  rw[sq_head f m,add_assoc]
theorem sq_add (f g : Nat → Q4) : ∀ m, sq (fun k => add (f k) (g k)) m = add (sq f m) (sq g m)
 | 0 => rfl
 | m+1 => by
  show add (sq (fun k => add (f k) (g k)) m) (add (f m) (g m)) = add (add (sq f m) (f m)) (add (sq g m) (g m))
  rw[sq_add f g m,add_assoc,add_assoc,← add_assoc (sq g m),add_comm (sq g m) (f m),add_assoc]
theorem sq_mul (u : Q4) (f : Nat → Q4) : ∀ m, sq (fun k => mul u (f k)) m = mul u (sq f m)
 | 0 => (mul_zero u).symm
 | m+1 => by
  show add (sq (fun k => mul u (f k)) m) (mul u (f m)) = mul u (add (sq f m) (f m))
  rw[sq_mul u f m,mul_add]
theorem sq_cong (f g : Nat → Q4) : ∀ m, (∀ k, k < m → f k = g k) → sq f m = sq g m
 | 0, _ => rfl
 | m+1, h => by
  show add (sq f m) (f m) = add (sq g m) (g m)
  rw[sq_cong f g m fun k hk => h k (by omega), h m (by omega)]
theorem sq_zero {r : Nat} (f : Nat → Q4) : ∀ m, (∀ k, k < m → Eq r (f k) (na 0)) → Eq r (sq f m) (na 0)
 | 0, _ => Eq.rfl
 | m+1, h => (sq_zero f m fun k hk => h k (by omega)).add (h m (by omega))
theorem binom (u : Q4) : ∀ n m, n < m → sq (fun k => sc (C n k) (pw u k)) m = pw (add u (na 1)) n
 | 0, m+1, _ => by
  rw[sq_head, sq_cong _ (fun _ => na 0)]
  ·have : ∀ m, sq (fun _ => na 0) m = na 0 := fun m => by
    induction m with
    | zero => rfl
    | succ m ih => show add (sq (fun _ => na 0) m) (na 0) = na 0; rw[ih]; rfl
   rw[this]
   rfl
  ·intro k _
   show sc (C 0 (k+1)) _ = na 0
   rw[C_gt 0 (k+1) (by omega),sc_zero]
 | n+1, m+1, h => by
  have h1 := binom u n m (by omega)
  have h2 := binom u n (m+1) (by omega)
  rw[sq_head] at h2 ⊢
  have e : sq (fun k => sc (C (n+1) (k+1)) (pw u (k+1))) m = add (mul u (sq (fun k => sc (C n k) (pw u k)) m)) (sq (fun k => sc (C n (k+1)) (pw u (k+1))) m) := by
   rw[← sq_mul,← sq_add]
   refine sq_cong _ _ m fun k _ => ?_
   show sc (C n k + C n (k+1)) (pw u (k+1)) = add (mul u (sc (C n k) (pw u k))) _
   rw[sc_add,mul_sc]
   congr 2
   show mul (pw u k) u = _
   rw[mul_comm]
  rw[e,h1,C_0]
  rw[C_0] at h2
  show _ = mul (pw (add u (na 1)) n) (add u (na 1))
  rw[mul_add,mul_one,mul_comm,← add_assoc,add_comm (sc 1 _),add_assoc,h2]
theorem frob {r : Nat} (h : IsP r) (u : Q4) : Eq r (pw (add u (na 1)) r) (add (pw u r) (na 1)) := by
 have hb := binom u r (r+1) (by omega)
 obtain ⟨n, e⟩ : ∃ n, r = n + 1 := ⟨r - 1, by have := h.1; omega⟩
 have e2 : sq (fun k => sc (C r k) (pw u k)) (r+1) = add (sq (fun k => sc (C r k) (pw u k)) r) (sc (C r r) (pw u r)) := rfl
 have e3 : sq (fun k => sc (C r k) (pw u k)) r = add (sc (C r 0) (pw u 0)) (sq (fun k => sc (C r (k+1)) (pw u (k+1))) n) := by
  rw[← sq_head (fun k => sc (C r k) (pw u k)) n, ← e]
 have hd : Eq r (sq (fun k => sc (C r (k+1)) (pw u (k+1))) n) (na 0) := sq_zero _ n fun k hk => by
  obtain ⟨t, ht⟩ := C_dvd h (k := k + 1) (by omega) (by omega)
  rw[ht]
  have z : ∀ x, r * t * x % r = 0 % r := fun x => by rw[Nat.mul_assoc,Nat.mul_mod_right,Nat.zero_mod]
  exact ⟨z _, z _, z _, z _⟩
 rw[← hb,e2,e3,C_0,C_nn,sc_one,sc_one]
 refine (((Eq.rfl (u := pw u 0)).add hd).add (Eq.rfl (u := pw u r))).trans (Eq.of ?_)
 show add (add (na 1) (na 0)) (pw u r) = _
 rw[add_zero,add_comm]
theorem frobn {r : Nat} (h : IsP r) (u : Q4) : ∀ n, Eq r (pw (add u (na n)) r) (add (pw u r) (na n))
 | 0 => Eq.rfl
 | n+1 => by
  have e : ∀ v, add v (na (n+1)) = add (add v (na n)) (na 1) := fun v => by
   rw[add_assoc]
   rfl
  rw[e u,e (pw u r)]
  exact (frob h _).trans ((frobn h u n).add Eq.rfl)
def X : Q4 := ⟨0, 1, 0, 0⟩
def sg (w : Nat) (u : Q4) : Q4 := ⟨u.a, w * u.b, w * w * u.c, w * w * w * u.d⟩
theorem pwX (t : Nat) : pw X (4 * t + 1) = ⟨0, 2 ^ t, 0, 0⟩ := by
 rw[pw_add,pw_mul,pw_one,show pw X 4 = na 2 from rfl,pw_na]
 refine ex ?_ ?_ ?_ ?_ <;> simp[mul,na,X]
theorem split (u : Q4) : add (mul X (add (mul X (add (mul X (add (na 0) (na u.d))) (na u.c))) (na u.b))) (na u.a) = u := by
 refine ex ?_ ?_ ?_ ?_ <;> simp[mul,na,X,add]
theorem joinw (w : Nat) (u : Q4) : add (mul ⟨0, w, 0, 0⟩ (add (mul ⟨0, w, 0, 0⟩ (add (mul ⟨0, w, 0, 0⟩ (add (na 0) (na u.d))) (na u.c))) (na u.b))) (na u.a) = sg w u := by
 refine ex ?_ ?_ ?_ ?_ <;> simp[mul,na,add,sg,Nat.mul_assoc]
theorem frobs {r t : Nat} (h : IsP r) (ht : r = 4 * t + 1) (u : Q4) : Eq r (pw u r) (sg (2 ^ t) u) := by
 have z : Eq r (pw (na 0) r) (na 0) := by
  have := h.1
  rw[pw_na,Nat.zero_pow (by omega)]
  exact Eq.rfl
 have k : ∀ v v' n, Eq r (pw v r) v' → Eq r (pw (add (mul X v) (na n)) r) (add (mul ⟨0, 2 ^ t, 0, 0⟩ v') (na n)) := fun v v' n e => by
  refine (frobn h _ n).trans ((Eq.add ?_ Eq.rfl))
  rw[mul_pw,ht,pwX,← ht]
  exact Eq.rfl.mul e
 have k0 : ∀ v v' n, Eq r (pw v r) v' → Eq r (pw (add v (na n)) r) (add v' (na n)) := fun v v' n e => (frobn h v n).trans (e.add Eq.rfl)
 rw[← joinw]
 have s := k _ _ u.a (k _ _ u.b (k _ _ u.c (k0 _ _ u.d z)))
 rw[split] at s
 exact s
theorem sg_mul {q w : Nat} (hw : w ^ 4 % q = 1 % q) (u v : Q4) : Eq q (mul (sg w u) (sg w v)) (sg w (mul u v)) := by
 have k : ∀ x y, x = w ^ 4 * y → x % q = y % q := fun x y e => by
  rw[e,Nat.mul_mod,hw,← Nat.mul_mod,Nat.one_mul]
 have p4 : w ^ 4 = w * (w * (w * w)) := by simp[Nat.pow_succ,Nat.mul_assoc]
 refine ⟨?_, ?_, ?_, ?_⟩
 ·simp only[mul,sg]
  refine ma (.refl _) (k _ _ ?_)
  rw[p4]
  simp only[Nat.mul_add,Nat.add_mul,Nat.mul_assoc,Nat.mul_comm,Nat.mul_left_comm]
 ·simp only[mul,sg,Nat.mul_add w]
  refine ma (congrArg (· % q) ?_) (k _ _ ?_)
  ·simp only[Nat.mul_assoc,Nat.mul_comm,Nat.mul_left_comm]
  ·rw[p4]
   simp only[Nat.mul_add,Nat.add_mul,Nat.mul_assoc,Nat.mul_comm,Nat.mul_left_comm]
 ·simp only[mul,sg,Nat.mul_add (w * w)]
  refine ma (congrArg (· % q) ?_) (k _ _ ?_)
  ·simp only[Nat.mul_assoc,Nat.mul_comm,Nat.mul_left_comm]
  ·rw[p4]
   simp only[Nat.mul_add,Nat.add_mul,Nat.mul_assoc,Nat.mul_comm,Nat.mul_left_comm]
 ·refine congrArg (· % q) ?_
  simp only[mul,sg,Nat.mul_add,Nat.mul_assoc,Nat.mul_comm,Nat.mul_left_comm]
end Q4
theorem two {n u v : Nat} (h : IsP (n + 1)) (d : n + 1 ∣ u * u + n * (v * v)) : u % (n + 1) = v % (n + 1) ∨ n + 1 ∣ u + v := by
 have e : (u + v) * (u + n * v) = (u * u + n * (v * v)) + (n + 1) * (u * v) := by grind
 rcases h.euc (a := u + v) (b := u + n * v) (by rw[e]; exact Nat.dvd_add d (Nat.dvd_mul_right _ _)) with g | g
 ·exact .inr g
 ·left
  have k := Nat.mod_eq_zero_of_dvd g
  have k2 : (u + n * v + v) % (n + 1) = v % (n + 1) := Q4.ma (k.trans (Nat.zero_mod _).symm) rfl |>.trans (by rw[Nat.zero_add])
  rw[show u + n * v + v = u + (n + 1) * v by grind, Nat.add_mul_mod_self_left] at k2
  exact k2
theorem cancel {r x y z : Nat} (h : (x + z) % r = (y + z) % r) : x % r = y % r := by
 rcases Nat.eq_zero_or_pos r with h0 | h0
 ·subst h0
  rw[Nat.mod_zero,Nat.mod_zero] at h ⊢
  omega
 ·have k : (x + z + (r - 1) * z) % r = (y + z + (r - 1) * z) % r := Q4.ma h rfl
  have e : ∀ x, x + z + (r - 1) * z = x + r * z := fun x => by
   have : r * z = (r - 1) * z + z := by rw[← Nat.succ_mul]; congr 1; omega
   omega
  rwa [e, e, Nat.add_mul_mod_self_left, Nat.add_mul_mod_self_left] at k
theorem roots {r i w : Nat} (h : IsP r) (hi : r ∣ i * i + 1) (hw : w ^ 4 % r = 1 % r) : ∃ j, j < 4 ∧ w % r = i ^ j % r := by
 obtain ⟨n, rfl⟩ : ∃ n, r = n + 1 := ⟨r - 1, by have := h.1; omega⟩
 have z : ∀ x, (n + 1 ∣ x) → x % (n + 1) = 0 := fun x g => Nat.mod_eq_zero_of_dvd g
 have d : ∀ x, x % (n + 1) = 1 % (n + 1) → n + 1 ∣ x + n * (1 * 1) := fun x g => Nat.dvd_of_mod_eq_zero (by
  have := Q4.ma g (.refl (n * (1 * 1) % (n + 1)))
  rw[this]
  simp[Nat.add_comm])
 rcases two h (u := w * w) (v := 1) (d _ (by rw[← hw]; congr 1; simp[Nat.pow_succ,Nat.mul_assoc])) with g | g
 ·rcases two h (u := w) (v := 1) (d _ g) with g | g
  ·exact ⟨0, by omega, g⟩
  ·refine ⟨2, by omega, cancel (z := 1) ?_⟩
   rw[z _ g,z _ (by rw [Nat.pow_two]; exact hi)]
 ·have g2 : n + 1 ∣ w * w + n * (i * i) := by
   have e : (w * w + n * (i * i)) + (i * i + 1) = (w * w + 1) + (n + 1) * (i * i) := by grind
   exact (Nat.dvd_add_left hi).1 (e ▸ Nat.dvd_add g (Nat.dvd_mul_right _ _))
  rcases two h (u := w) (v := i) g2 with g | g
  ·exact ⟨1, by omega, by rw[Nat.pow_one]; exact g⟩
  ·refine ⟨3, by omega, cancel (z := i) ?_⟩
   rw[z _ g, z _ (by rw [show i ^ 3 + i = (i * i + 1) * i by grind]; exact Nat.dvd_trans hi (Nat.dvd_mul_right _ _))]
namespace Q4
theorem sg_one (u : Q4) : sg 1 u = u := by
 refine ex ?_ ?_ ?_ ?_ <;> simp[sg]
theorem sg_sg (w v : Nat) (u : Q4) : sg w (sg v u) = sg (w * v) u := by
 refine ex ?_ ?_ ?_ ?_ <;> simp only[sg,Nat.mul_assoc,Nat.mul_left_comm]
theorem Eq.sg {r w w' : Nat} {u u' : Q4} (hw : w % r = w' % r) (h : Eq r u u') : Eq r (sg w u) (sg w' u') :=
 ⟨h.1, mm hw h.2.1, mm (mm hw hw) h.2.2.1, mm (mm (mm hw hw) hw) h.2.2.2⟩
theorem sg_pw {q w : Nat} (hw : w ^ 4 % q = 1 % q) (u : Q4) : ∀ n, Eq q (pw (sg w u) n) (sg w (pw u n))
 | 0 => Eq.of (by refine ex ?_ ?_ ?_ ?_ <;> simp[pw,sg,na])
 | n+1 => ((sg_pw hw u n).mul Eq.rfl).trans (sg_mul hw _ _)
theorem pw_qj {q i : Nat} {u : Q4} (hi : i ^ 4 % q = 1 % q) (h : Eq q (pw u q) (sg i u)) : ∀ j, Eq q (pw u (q ^ j)) (sg (i ^ j) u)
 | 0 => Eq.of (by rw[Nat.pow_zero,Nat.pow_zero,pw_one,sg_one])
 | j+1 => by
  rw[Nat.pow_succ,pw_mul]
  refine ((pw_qj hi h j).pw q).trans ?_
  refine (sg_pw ?_ u q).trans ?_
  ·rw[← Nat.pow_mul,Nat.mul_comm,Nat.pow_mul,Nat.pow_mod,hi,← Nat.pow_mod,Nat.one_pow]
  ·refine (Eq.sg rfl h).trans (Eq.of ?_)
   rw[sg_sg,Nat.pow_succ]
theorem pw_k {r S : Nat} {u : Q4} (h : Eq r (pw u S) (na 1)) (k : Nat) : Eq r (pw u (S * k)) (na 1) := by
 rw[pw_mul]
 have := Eq.pw h k
 rwa [pw_na1] at this
theorem can {r S m n : Nat} {u : Q4} (hS : 1 ≤ S) (h : Eq r (pw u S) (na 1)) (e : Eq r (pw u m) (pw u n)) (hmn : m ≤ n) : Eq r (pw u (n - m)) (na 1) := by
 have k1 := pw_k h m
 have a : S * m = m + (S - 1) * m := by
  rw[Nat.add_comm,← Nat.succ_mul]; congr 1; omega
 have b : n + (S - 1) * m = (n - m) + S * m := by omega
 have c : Eq r (mul (pw u n) (pw u ((S - 1) * m))) (mul (pw u m) (pw u ((S - 1) * m))) := e.symm.mul Eq.rfl
 rw[← pw_add,← pw_add,← a,b,pw_add] at c
 have d : Eq r (mul (pw u (n - m)) (pw u (S * m))) (mul (pw u (n - m)) (na 1)) := Eq.rfl.mul k1
 rw[mul_one] at d
 exact d.symm.trans (c.trans k1)
theorem pw_gcd {r : Nat} {u : Q4} : ∀ m n, Eq r (pw u m) (na 1) → Eq r (pw u n) (na 1) → Eq r (pw u (Nat.gcd m n)) (na 1) := fun m n => by
 induction m, n using Nat.gcd.induction with
 | H0 n => intro _ h; rwa [Nat.gcd_zero_left]
 | H1 m n hm ih =>
  intro h1 h2
  rw[Nat.gcd_rec]
  refine ih ?_ h1
  have e : pw u n = mul (pw u (m * (n / m))) (pw u (n % m)) := by rw[← pw_add,Nat.div_add_mod]
  rw[e] at h2
  have k := (pw_k h1 (n / m)).mul (Eq.rfl (u := pw u (n % m)))
  rw[one_mul] at k
  exact k.symm.trans h2
end Q4
theorem prod_mem {p : Nat} (hp : IsP p) : ∀ l : List Nat, (∀ x, x ∈ l → IsP x) → p ∣ prod l → p ∈ l
 | [], _, h => by
  have := Nat.le_of_dvd (by decide) h
  have := hp.1
  simp only[prod] at *
  omega
 | x :: l, hl, h => by
  rcases hp.euc h with g | g
  ·rcases (hl x (by simp)).2 p g with k | k
   ·have := hp.1
    omega
   ·simp[k]
  ·exact List.mem_cons_of_mem _ (prod_mem hp l (fun y hy => hl y (by simp[hy])) g)
theorem ord {r D : Nat} {u : Q4} {l : List Nat} (hl : ∀ f, f ∈ l → IsP f) (hS : Q4.Eq r (Q4.pw u (prod l)) (Q4.na 1)) (hn : ∀ f, f ∈ l → ¬ Q4.Eq r (Q4.pw u (prod l / f)) (Q4.na 1)) (hp : 0 < prod l) (hD : Q4.Eq r (Q4.pw u D) (Q4.na 1)) : prod l ∣ D := by
 have g := Q4.pw_gcd _ _ hD hS
 obtain ⟨h, e⟩ := Nat.gcd_dvd_right D (prod l)
 rcases Nat.lt_or_ge 1 h with k | k
 ·obtain ⟨p, h1, h2⟩ := ex_prime h k
  obtain ⟨t, rfl⟩ := h2
  have hm := prod_mem h1 l hl ⟨Nat.gcd D (prod l) * t, by rw[Nat.mul_left_comm]; exact e⟩
  refine absurd ?_ (hn p hm)
  have e2 : prod l / p = Nat.gcd D (prod l) * t := by
   have := h1.1
   refine Nat.div_eq_of_eq_mul_right (by omega) ?_
   rw[Nat.mul_left_comm]
   exact e
  rw[e2]
  exact Q4.pw_k g t
 ·have : h = 1 := by
   rcases Nat.eq_zero_or_pos h with z | z
   ·rw[z,Nat.mul_zero] at e
    omega
   ·omega
  rw[this,Nat.mul_one] at e
  rw[e]
  exact Nat.gcd_dvd_left _ _
theorem resid {q i r : Nat} {u : Q4} {l : List Nat} (hr : IsP r) (hd : r ∣ q) (hq : q % 2 = 1) (h0 : 0 < q) (hi : q ∣ i * i + 1) (hF : Q4.Eq q (Q4.pw u q) (Q4.sg i u)) (hl : ∀ f, f ∈ l → IsP f) (hS : Q4.Eq q (Q4.pw u (prod l)) (Q4.na 1)) (hn : ∀ f, f ∈ l → ¬ Q4.Eq r (Q4.pw u (prod l / f)) (Q4.na 1)) (hp : 0 < prod l) : ∃ j, j < 4 ∧ r % prod l = q ^ j % prod l := by
 have r2 := hr.1
 have hir : r ∣ i * i + 1 := Nat.dvd_trans hd hi
 have rodd : r % 2 = 1 := by
  obtain ⟨t, rfl⟩ := hd
  rw[Nat.mul_mod] at hq
  rcases Nat.mod_two_eq_zero_or_one r with x | x
  ·rw[x] at hq
   simp at hq
  ·exact x
 have i2 : i ^ 2 % r = (r - 1) % r := by
  refine cancel (z := 1) ?_
  rw[Nat.pow_two, Nat.mod_eq_zero_of_dvd hir, show r - 1 + 1 = r by omega, Nat.mod_self]
 have nd : ¬ r ∣ i := fun g => by
  have := (Nat.dvd_add_right (Nat.dvd_trans g (Nat.dvd_mul_right i i))).1 hir
  have := Nat.le_of_dvd (by omega) this
  omega
 have i4 : ∀ q, q ∣ i * i + 1 → i ^ 4 % q = 1 % q := fun q hi => by
  have e : i ^ 4 + (i * i + 1) = (i * i + 1) * (i * i) + 1 := by grind
  have := Nat.mod_eq_zero_of_dvd hi
  refine cancel (z := i * i + 1) ?_
  rw[e]
  refine (Q4.ma (x' := 0) ((Nat.mod_eq_zero_of_dvd (Nat.dvd_trans hi (Nat.dvd_mul_right _ _))).trans (Nat.zero_mod q).symm) rfl).trans ?_
  rw[Nat.zero_add,Nat.add_mod 1,this,Nat.add_zero,Nat.mod_mod]
 have four : 4 ∣ r - 1 := by
  have g := Pr.pow_gcd r2 4 (r - 1) (by rw[i4 r hir]; exact Nat.mod_eq_of_lt (by omega)) (fermat1 hr nd)
  have d4 := Nat.gcd_dvd_left 4 (r - 1)
  have d2 : 2 ∣ Nat.gcd 4 (r - 1) := Nat.dvd_gcd (by decide) (Nat.dvd_of_mod_eq_zero (by omega))
  have le := Nat.le_of_dvd (by omega) d4
  obtain ⟨m, hm⟩ := d2
  obtain ⟨m', hm'⟩ := d4
  have c : Nat.gcd 4 (r - 1) = 2 ∨ Nat.gcd 4 (r - 1) = 4 := by
   have : m = 0 ∨ m = 1 ∨ m = 2 := by omega
   rcases this with rfl | rfl | rfl
   ·rw[hm] at hm'
    omega
   ·left; omega
   ·right; omega
  rcases c with c | c
  ·rw[c,i2,Nat.mod_eq_of_lt (by omega)] at g
   omega
  ·rw[← c]
   exact Nat.gcd_dvd_right _ _
 obtain ⟨t, ht⟩ := four
 have w4 : (2 ^ t) ^ 4 % r = 1 % r := by
  rw[← Nat.pow_mul, Nat.mul_comm, ← ht, fermat1 hr fun g => by have := Nat.le_of_dvd (by omega) g; omega]
  exact (Nat.mod_eq_of_lt (by omega)).symm
 obtain ⟨j, hj, ej⟩ := roots hr hir w4
 refine ⟨j, hj, ?_⟩
 have f1 := (Q4.frobs hr (show r = 4 * t + 1 by omega) u).trans (Q4.Eq.sg ej Q4.Eq.rfl)
 have f2 := (Q4.pw_qj (i4 q hi) hF j).dvd hd
 have f3 := f1.trans f2.symm
 have sr := hS.dvd hd
 have fin : ∀ m n, m ≤ n → Q4.Eq r (Q4.pw u m) (Q4.pw u n) → n % prod l = m % prod l := fun m n hmn e => by
  obtain ⟨k, hk⟩ := ord hl sr hn hp (Q4.can hp sr e hmn)
  rw[show n = m + prod l * k by omega, Nat.add_mul_mod_self_left]
 rcases Nat.le_total r (q ^ j) with g | g
 ·exact (fin _ _ g f3).symm
 ·exact fin _ _ g f3.symm
def md (n : Nat) (u : Q4) : Q4 := ⟨u.a % n, u.b % n, u.c % n, u.d % n⟩
theorem md_eq (n : Nat) (u : Q4) : Q4.Eq n (md n u) u := ⟨Nat.mod_mod _ _, Nat.mod_mod _ _, Nat.mod_mod _ _, Nat.mod_mod _ _⟩
def qm (n : Nat) : Nat → Nat → Q4 → Q4 → Q4
 | 0, _, _, acc => acc
 | f+1, e, u, acc => qm n f (e / 2) (md n (u.mul u)) (if e % 2 = 0 then acc else md n (acc.mul u))
theorem qm_ok (n : Nat) : ∀ f e u acc, e < 2 ^ f → Q4.Eq n (qm n f e u acc) (acc.mul (u.pw e))
 | 0, e, u, acc, h => by
  have : e = 0 := by simpa using h
  rw[this]
  exact Q4.Eq.of (Q4.mul_one acc).symm
 | f+1, e, u, acc, h => by
  unfold qm
  refine (qm_ok n f _ _ _ (by rw[Nat.pow_succ] at h; omega)).trans ?_
  have e1 : Q4.Eq n ((md n (u.mul u)).pw (e / 2)) (u.pw (2 * (e / 2))) := by
   rw[Q4.pw_mul, show u.pw 2 = u.mul u by show Q4.mul (Q4.mul (Q4.na 1) u) u = _; rw [Q4.one_mul]]
   exact (md_eq n _).pw _
  by_cases h0 : e % 2 = 0
  ·rw[if_pos h0]
   refine (Q4.Eq.rfl.mul e1).trans (Q4.Eq.of ?_)
   rw[show 2 * (e / 2) = e by omega]
  ·rw[if_neg h0]
   refine ((md_eq n _).mul e1).trans (Q4.Eq.of ?_)
   rw[Q4.mul_assoc]
   congr 1
   rw[show e = 1 + 2 * (e / 2) by omega, Q4.pw_add, Q4.pw_one, show 2 * ((1 + 2 * (e / 2)) / 2) = 2 * (e / 2) by omega]
def qp (n : Nat) (u : Q4) (e : Nat) : Q4 := qm n (Nat.log2 e + 1) e u (Q4.na 1)
theorem qp_ok (n : Nat) (u : Q4) (e : Nat) : Q4.Eq n (qp n u e) (u.pw e) := by
 have := qm_ok n (Nat.log2 e + 1) e u (Q4.na 1) Nat.lt_log2_self
 rwa [Q4.one_mul] at this
def same (n : Nat) (u v : Q4) : Bool := Nat.beq (u.a % n) (v.a % n) && (Nat.beq (u.b % n) (v.b % n) && (Nat.beq (u.c % n) (v.c % n) && Nat.beq (u.d % n) (v.d % n)))
theorem same_ok {n : Nat} {u v : Q4} (h : same n u v = true) : Q4.Eq n u v := by
 unfold same at h
 simp only[Bool.and_eq_true] at h
 exact ⟨Nat.eq_of_beq_eq_true h.1, Nat.eq_of_beq_eq_true h.2.1, Nat.eq_of_beq_eq_true h.2.2.1, Nat.eq_of_beq_eq_true h.2.2.2⟩
def apart (n : Nat) (w : Q4) : Bool := Nat.beq (Nat.gcd (w.a + (n - 1)) n) 1 || Nat.beq (Nat.gcd w.d n) 1
theorem apart_ok {n r : Nat} {u w : Q4} (hr : IsP r) (hd : r ∣ n) (h0 : 0 < n) (h : apart n w = true) (e : Q4.Eq n w u) : ¬ Q4.Eq r u (Q4.na 1) := fun x => by
 have y := (e.dvd hd).trans x
 have r2 := hr.1
 have no : ∀ z, r ∣ z → Nat.gcd z n = 1 → False := fun z g k => by
  have := Nat.dvd_gcd g hd
  rw[k] at this
  have := Nat.le_of_dvd (by omega) this
  omega
 unfold apart at h
 rw[Bool.or_eq_true] at h
 rcases h with h | h
 ·refine no _ ?_ (Nat.eq_of_beq_eq_true h)
  have k := Q4.ma y.1 (.refl ((n - 1) % r))
  refine Nat.dvd_of_mod_eq_zero (k.trans ?_)
  show (1 + (n - 1)) % r = 0
  rw[show 1 + (n - 1) = n by omega]
  exact Nat.mod_eq_zero_of_dvd hd
 ·refine no _ ?_ (Nat.eq_of_beq_eq_true h)
  refine Nat.dvd_of_mod_eq_zero (y.2.2.2.trans ?_)
  exact Nat.zero_mod r
def quad (q i : Nat) (u : Q4) (l : List Nat) (K : Nat) : Bool :=
 Nat.beq (q % 2) 1 && (Nat.beq ((i * i + 1) % q) 0 && (same q (qp q u q) (u.sg i) && (same q (qp q u (prod l)) (Q4.na 1) && ((l.all fun f => apart q (qp q u (prod l / f))) && (Nat.blt 0 (prod l) && (Nat.blt q (prod l * K * (prod l * K)) && ((List.range 4).all fun j => (List.range K).all fun k => Nat.blt (q ^ j % prod l + prod l * k) 2 || !(Nat.beq (q % (q ^ j % prod l + prod l * k)) 0))))))))
theorem quad_ok {q i K : Nat} {u : Q4} {l : List Nat} (hl : ∀ f, f ∈ l → IsP f) (h : quad q i u l K = true) (h2 : 2 ≤ q) : IsP q := by
 unfold quad at h
 simp only[Bool.and_eq_true] at h
 obtain ⟨h1, h3, h4, h5, h6, h7, h8, h9⟩ := h
 have h1 := Nat.eq_of_beq_eq_true h1
 have h3 := Nat.dvd_of_mod_eq_zero (Nat.eq_of_beq_eq_true h3)
 have h4 := (qp_ok q u q).symm.trans (same_ok h4)
 have h5 := (qp_ok q u (prod l)).symm.trans (same_ok h5)
 have h7 : 0 < prod l := by simpa [Nat.blt_eq] using h7
 have h8 : q < prod l * K * (prod l * K) := by simpa [Nat.blt_eq] using h8
 have key : ∀ s t, s * t = q → s ≤ t → s = 1 := fun s t e hst => by
  apply Classical.byContradiction
  intro hs
  have s0 : s ≠ 0 := fun x => by rw[x,Nat.zero_mul] at e; omega
  obtain ⟨r, hr, hd⟩ := ex_prime s (by omega)
  have hrq : r ∣ q := Nat.dvd_trans hd ⟨t, e.symm⟩
  have b2 := Nat.le_of_dvd (by omega) hd
  obtain ⟨j, hj, ej⟩ := resid hr hrq h1 (by omega) h3 h4 hl h5 (fun f hf => apart_ok hr hrq (by omega) (List.all_eq_true.1 h6 f hf) (qp_ok q u _)) h7
  have hk : r / prod l < K := Classical.byContradiction fun g => by
   have g1 : prod l * K ≤ r := Nat.le_trans (Nat.mul_le_mul (Nat.le_refl _) (show K ≤ r / prod l by omega)) (Nat.mul_div_le r (prod l))
   have := Nat.mul_le_mul (Nat.le_trans g1 b2) (Nat.le_trans (Nat.le_trans g1 b2) hst)
   omega
  have k := List.all_eq_true.1 (List.all_eq_true.1 h9 j (List.mem_range.2 hj)) (r / prod l) (List.mem_range.2 hk)
  rw[← ej,Nat.mod_add_div,Bool.or_eq_true] at k
  have r2 := hr.1
  rcases k with k | k
  ·have : r < 2 := by simpa [Nat.blt_eq] using k
   omega
  ·rw[Nat.mod_eq_zero_of_dvd hrq] at k
   simp at k
 refine ⟨h2, fun d hd => ?_⟩
 obtain ⟨t, ht⟩ := hd
 rcases Nat.le_total d t with g | g
 ·exact .inl (key d t ht.symm g)
 ·right
  have := key t d (by rw[Nat.mul_comm]; exact ht.symm) g
  rw[ht,this,Nat.mul_one]
def chain : List Nat → List (Nat × Nat × List Nat) → Bool
 | _, [] => true
 | ps, (p, a, l) :: r => Nat.ble 2 p && ((if l.isEmpty then Nat.blt p (a * a) && (List.range a).all fun d => Nat.blt d 2 || !(Nat.beq (p % d) 0) else decide l.Nodup && (l.all (fun x => ps.contains x) && tst p a l)) && chain (p :: ps) r)
theorem chain_ok : ∀ (r : List (Nat × Nat × List Nat)) (ps : List Nat), (∀ x, x ∈ ps → IsP x) → chain ps r = true → ∀ x, x ∈ r.map Prod.fst → IsP x
 | [], _, _, _, x, hx => absurd hx (by simp)
 | (p, a, l) :: r, ps, hps, h, x, hx => by
  unfold chain at h
  simp only[Bool.and_eq_true] at h
  obtain ⟨h1, h2, h3⟩ := h
  have h1 : 2 ≤ p := by simpa using h1
  have hp : IsP p := by
   by_cases hl : l.isEmpty = true
   ·rw[if_pos hl,Bool.and_eq_true] at h2
    exact sml_ok h1 (by simpa [Nat.blt_eq] using h2.1) h2.2
   ·rw[if_neg hl,Bool.and_eq_true,Bool.and_eq_true] at h2
    exact tst_ok h1 (fun q hq => hps q (List.contains_iff_mem.1 (List.all_eq_true.1 h2.2.1 q hq))) (of_decide_eq_true h2.1) h2.2.2
  rw[List.map_cons,List.mem_cons] at hx
  rcases hx with rfl | hx
  ·exact hp
  ·exact chain_ok r (p :: ps) (fun y hy => by
    rw[List.mem_cons] at hy
    rcases hy with rfl | hy
    ·exact hp
    ·exact hps y hy) h3 x hx
end Go.Proofs.YtcgplgpdcfocpaaGreatDoor.Pr
end
section
namespace Go.Proofs.YtcgplgpdcfocpaaGreatDoor.Pr
def tbl : List (Nat × Nat × List Nat) := [(659, 26, []), (11, 4, []), (507431, 2, [659, 11]), (233, 16, []), (181, 14, []), (84347, 2, [233, 181]), (67577622930942643, 2, [507431, 84347]), (772006764363088753633, 2, [67577622930942643]), (3088027057452355014533, 2, [772006764363088753633]), (431, 21, []), (41, 7, []), (706841, 2, [431, 41]), (275078484607, 2, [706841]),
 (275858589192859458949747898833566714445005506488883, 2, [3088027057452355014533, 275078484607]), (88900632503243351461199153429459154332975524503983981294509376062221862617071, 2, [275858589192859458949747898833566714445005506488883]), (3181, 57, []), (57259, 2, [3181]), (687109, 2, [57259]), (17341, 132, []), (2023551142011271, 2, [687109, 17341]), (263867021815985715859, 2, [2023551142011271]),
 (15377, 125, []), (553573, 2, [15377]), (5535731, 2, [553573]), (44285849, 2, [5535731]), (8719, 94, []), (15584911148150023, 2, [44285849, 8719]), (1090943780370501611, 2, [15584911148150023]), (937, 31, []), (556579, 2, [937]), (62336849, 2, [556579]), (413524204558697, 2, [62336849]),
 (97384937673999542200773646991410189597600124392557061578446940566750935936157, 2, [263867021815985715859, 1090943780370501611, 413524204558697]), (31, 6, []), (7, 3, []), (5, 3, []), (54251, 2, [31, 7, 5]), (17903, 134, []), (2738940941461, 2, [54251, 17903]), (28669, 170, []), (3463, 59, []), (1397475794773, 2, [28669, 3463]), (1117, 34, []), (617, 25, []), (5513513, 2, [1117, 617]),
 (3914594231, 2, [5513513]), (78291884621, 2, [3914594231]), (3841441854965874571239043641370033532554483490056333, 2, [2738940941461, 1397475794773, 78291884621]), (38260760875460110729540874668045533984242655560961076681, 2, [3841441854965874571239043641370033532554483490056333]),
 (210324557838458567982009485073297077916620720240161302133382616003649180119610153435363, 2, [38260760875460110729540874668045533984242655560961076681]), (14161152479263415382228698629985092256126073093770060472640651535525699297453351630802990791, 2, [210324557838458567982009485073297077916620720240161302133382616003649180119610153435363]),
 (25813412062728437006801677438628665792695393984839657681883171023555783371925160737353134704768725053418588237297, 2, [14161152479263415382228698629985092256126073093770060472640651535525699297453351630802990791]),
 (11893067265757354036213055555798390198132612185751396483225919590495746575497479966854070680528710877764282224625948595602460640209804849277353684779574133, 2, [25813412062728437006801677438628665792695393984839657681883171023555783371925160737353134704768725053418588237297]), (167, 13, []), (13, 4, []), (91183, 2, [167, 13]), (7477007, 2, [91183]), (230471263769, 2, [7477007]), (113, 11, []),
 (53, 8, []), (2898677, 2, [113, 53]), (2295716713688343177575393, 2, [230471263769, 2898677]), (15397458153259878506479382739602907271, 2, [2295716713688343177575393]), (5188143545595090779916024275221577905901385149602899619405624014977699291, 2, [15397458153259878506479382739602907271]),
 (20816492801178981009403935404110466172865261421665524069121582985853409300383331754810949795969101, 2, [5188143545595090779916024275221577905901385149602899619405624014977699291]), (124898956807073886056423612424662797037191568529993144414729497915120455802299990528865698775814607, 2, [20816492801178981009403935404110466172865261421665524069121582985853409300383331754810949795969101]),
 (69871180818302734490186822900812004845541451332599928400407124720045268073271192314933728922697413285889256725409, 2, [124898956807073886056423612424662797037191568529993144414729497915120455802299990528865698775814607]),
 (37590695280246871155720510720636858606901300816938761479419033099384354223419901465434346160411208347808420118270043, 2, [69871180818302734490186822900812004845541451332599928400407124720045268073271192314933728922697413285889256725409]), (4349, 66, []), (193, 14, []), (11280958081, 2, [4349, 193]), (2617983087444254029, 2, [11280958081]), (211067032475930648326039, 2, [2617983087444254029]),
 (37574997389495077737594766937, 2, [211067032475930648326039]), (477728516810040418355779866837019, 2, [37574997389495077737594766937]), (10501148057474892039730634859181083192396565937001643, 2, [477728516810040418355779866837019]), (117274805595089410743144768508938873782525327254779587926974445499, 2, [10501148057474892039730634859181083192396565937001643]),
 (3246081669688030290124926817445753652912241004677122455313602888806629622085051, 2, [117274805595089410743144768508938873782525327254779587926974445499]), (19476490018128181740749560904674521917473446028062734731881617332839777732510307, 2, [3246081669688030290124926817445753652912241004677122455313602888806629622085051]),
 (33514317913355748683613923947840297765209158520386608605605183579640819174612207469977351325032187056802286300716208102258177312471, 2, [19476490018128181740749560904674521917473446028062734731881617332839777732510307]),
 (13296718565256490367556322151028556354268719568020930811009247818981481613092301499190362027943750457012969329154695214800473725660155537062353417534985813, 2, [33514317913355748683613923947840297765209158520386608605605183579640819174612207469977351325032187056802286300716208102258177312471]), (2, 2, []), (3, 2, []), (17, 5, []), (37, 7, []), (59, 8, []), (7817, 89, []), (29129, 171, []),
 (443, 22, []), (64679, 2, [443]), (4603, 68, []), (101267, 2, [4603]), (8708963, 2, [101267]), (24821, 158, []), (1297, 37, []), (2464683600721, 2, [24821, 1297]), (647, 26, []), (94463, 2, [647]), (986193721, 2, [94463]), (2787389767359053, 2, [986193721])]
theorem primeT : ∀ x, x ∈ tbl.map Prod.fst → IsP x := chain_ok tbl [] (fun _ h => absurd h (by simp)) (by decide +kernel)
theorem pq : IsP 37545719423795139873181279407594000031692604780923203611841409340400808242225753344440127316320202691459820298141261 := quad_ok (i := 7365272363269640046234721789291915419457581739822954216269778222512134661738417403896793194925264669388488068781702) (u := ⟨29180605940674277836053846562190972083435500004880111144879747430284807269156601223810806697958176475910367789861531, 27808543642605295541252095703302361135770205618087052627893158610129968138064634767340793342016979350704318113623053, 17700883881078852948999744283587598396854264599268008576981089592949900202619072492701079273769840936298942303606622, 16384610691587155651595030000087032475861228035750192663255279058165432528934462368749523730579471555406603218612030⟩) (l := [2, 2, 2, 2, 3, 5, 7, 17, 37, 59, 7817, 29129, 64679, 8708963, 2464683600721, 2787389767359053]) (K := 112) (fun q hq => primeT q (List.contains_iff_mem.1 (List.all_eq_true.1 (show ([2, 2, 2, 2, 3, 5, 7, 17, 37, 59, 7817, 29129, 64679, 8708963, 2464683600721, 2787389767359053].all fun f => (tbl.map Prod.fst).contains f) = true by decide +kernel) q hq))) (by decide +kernel) (by decide)
end Go.Proofs.YtcgplgpdcfocpaaGreatDoor.Pr
end
section
namespace Go.Proofs.YtcgplgpdcfocpaaGreatDoor.Der
open Go Go.RowKit Go.Proofs Go.Proofs.YtcgplgpdcfocpaaGreatDoor.Eng Go.Proofs.YtcgplgpdcfocpaaGreatDoor.Code
attribute [local irreducible] callK S.W opsW scrW scrT
open Go.Proofs.YtcgplgpdcfocpaaGreatDoor.Spec Go.Proofs.YtcgplgpdcfocpaaGreatDoor.Big Go.Proofs.YtcgplgpdcfocpaaGreatDoor.Pr
theorem limB_0 : (kN0 ++ kD0 ++ [3]).all (fun x => decide (0 ≤ x ∧ x < 4294967296)) = true := by decide +kernel
theorem lim_0 : ∀ x ∈ kN0 ++ kD0 ++ [3], 0 ≤ x ∧ x < 4294967296 := fun x hx => of_decide_eq_true (List.all_eq_true.1 limB_0 x hx)
theorem key0 : Key kN0 [3] kD0 64 where
 lN := fun x hx => lim_0 x (by simp only[List.mem_append]; exact .inl (.inl hx))
 lD := fun x hx => lim_0 x (by simp only[List.mem_append]; exact .inl (.inr hx))
 nN := by decide +kernel
 nE := by decide
 nD := by decide +kernel
 chk := by decide +kernel
 bits := by decide +kernel
 small := by decide
 un := un_of (p := 88900632503243351461199153429459154332975524503983981294509376062221862617071) (q := 97384937673999542200773646991410189597600124392557061578446940566750935936157) (j := 48692468836999771100386823495705094798800062196278530789223470283375467968078) (l := 44450316251621675730599576714729577166487762251991990647254688031110931308535) (primeT _ (by decide +kernel)) (primeT _ (by decide +kernel)) (by decide) (by decide +kernel) (by decide +kernel) (by decide +kernel)
theorem limB_1 : (kN1 ++ kD1 ++ [65537]).all (fun x => decide (0 ≤ x ∧ x < 4294967296)) = true := by decide +kernel
theorem lim_1 : ∀ x ∈ kN1 ++ kD1 ++ [65537], 0 ≤ x ∧ x < 4294967296 := fun x hx => of_decide_eq_true (List.all_eq_true.1 limB_1 x hx)
theorem key1 : Key kN1 [65537] kD1 96 where
 lN := fun x hx => lim_1 x (by simp only[List.mem_append]; exact .inl (.inl hx))
 lD := fun x hx => lim_1 x (by simp only[List.mem_append]; exact .inl (.inr hx))
 nN := by decide +kernel
 nE := by decide
 nD := by decide +kernel
 chk := by decide +kernel
 bits := by decide +kernel
 small := by decide
 un := un_of (p := 37590695280246871155720510720636858606901300816938761479419033099384354223419901465434346160411208347808420118270043) (q := 37545719423795139873181279407594000031692604780923203611841409340400808242225753344440127316320202691459820298141261) (j := 264134136146398809007830300632423790222957474633794737409304314709719685984058174778136295670312625934419835797423764100) (l := 264450541296536738580493792919680300299550651247164187007712897854168931961759006809330625238492850726832235532029745470) (primeT _ (by decide +kernel)) pq (by decide) (by decide +kernel) (by decide +kernel) (by decide +kernel)
theorem limB_2 : (kN2 ++ kD2 ++ [65537]).all (fun x => decide (0 ≤ x ∧ x < 4294967296)) = true := by decide +kernel
theorem lim_2 : ∀ x ∈ kN2 ++ kD2 ++ [65537], 0 ≤ x ∧ x < 4294967296 := fun x hx => of_decide_eq_true (List.all_eq_true.1 limB_2 x hx)
theorem key2 : Key kN2 [65537] kD2 128 where
 lN := fun x hx => lim_2 x (by simp only[List.mem_append]; exact .inl (.inl hx))
 lD := fun x hx => lim_2 x (by simp only[List.mem_append]; exact .inl (.inr hx))
 nN := by decide +kernel
 nE := by decide
 nD := by decide +kernel
 chk := by decide +kernel
 bits := by decide +kernel
 small := by decide
 un := un_of (p := 11893067265757354036213055555798390198132612185751396483225919590495746575497479966854070680528710877764282224625948595602460640209804849277353684779574133) (q := 13296718565256490367556322151028556354268719568020930811009247818981481613092301499190362027943750457012969329154695214800473725660155537062353417534985813) (j := 191692143196020193383875718290303182681314995652373749036914821182346529675145164563077854175851078463527472333758663564171029465979632300059418043893122958698) (l := 171456404236790894463065515420167492291378803575885007400426469776381930505659419942151709965842160369288774691319987928502873819584651609606969396624730473978) (primeT _ (by decide +kernel)) (primeT _ (by decide +kernel)) (by decide) (by decide +kernel) (by decide +kernel) (by decide +kernel)
end Go.Proofs.YtcgplgpdcfocpaaGreatDoor.Der
end
section
namespace Go.Proofs.YtcgplgpdcfocpaaGreatDoor.Der
open Go Go.RowKit Go.Proofs Go.Proofs.YtcgplgpdcfocpaaGreatDoor.Eng Go.Proofs.YtcgplgpdcfocpaaGreatDoor.Code
attribute [local irreducible] callK S.W opsW scrW scrT
open Go.Proofs.YtcgplgpdcfocpaaGreatDoor.Spec Go.Proofs.YtcgplgpdcfocpaaGreatDoor.Big
theorem lim_one {x : Int} (h : 0 ≤ x ∧ x < 4294967296) : Lim [x] := fun y hy => by
 simp only[List.mem_cons,List.not_mem_nil,or_false] at hy
 rw[hy]
 exact h
theorem kn0 : KnOf 0 kN0 [3] kD0 16 64 := ⟨key0, by decide +kernel, rfl, by decide +kernel, lim_one (by decide), fun hK => knownD0 hK⟩
theorem kn1 : KnOf 1 kN1 [65537] kD1 24 96 := ⟨key1, by decide +kernel, rfl, by decide +kernel, lim_one (by decide), fun hK => knownD1 hK⟩
theorem kn2 : KnOf 2 kN2 [65537] kD2 32 128 := ⟨key2, by decide +kernel, rfl, by decide +kernel, lim_one (by decide), fun hK => knownD2 hK⟩
theorem kn_all {i : Int} (h : 0 ≤ i ∧ i < 3) : ∃ N E D n k, KnOf i N E D n k := by
 have c : i = 0 ∨ i = 1 ∨ i = 2 := by omega
 rcases c with rfl | rfl | rfl
 ·exact ⟨_, _, _, _, _, kn0⟩
 ·exact ⟨_, _, _, _, _, kn1⟩
 ·exact ⟨_, _, _, _, _, kn2⟩
end Go.Proofs.YtcgplgpdcfocpaaGreatDoor.Der
end
section
namespace Go.Proofs.YtcgplgpdcfocpaaGreatDoor.Der
open Go Go.RowKit Go.Proofs Go.Proofs.YtcgplgpdcfocpaaGreatDoor.Eng Go.Proofs.YtcgplgpdcfocpaaGreatDoor.Code
attribute [local irreducible] callK S.W opsW scrW scrT
open Go.Proofs.YtcgplgpdcfocpaaGreatDoor.Spec Go.Proofs.YtcgplgpdcfocpaaGreatDoor.Big
attribute [local irreducible] checkR sizeK rawR padR verR
end Go.Proofs.YtcgplgpdcfocpaaGreatDoor.Der
end
section
namespace Go.Proofs.YtcgplgpdcfocpaaGreatDoor.Der
open Go Go.RowKit Go.Proofs Go.Proofs.YtcgplgpdcfocpaaGreatDoor.Eng Go.Proofs.YtcgplgpdcfocpaaGreatDoor.Code
attribute [local irreducible] callK S.W opsW scrW scrT
open Go.Proofs.YtcgplgpdcfocpaaGreatDoor.Spec Go.Proofs.YtcgplgpdcfocpaaGreatDoor.Big
theorem wrap8 (x : Int) : 0 ≤ IntKind.u8.wrap x ∧ IntKind.u8.wrap x < 256 := by
 show 0 ≤ x % 256 ∧ x % 256 < 256
 omega
theorem dig_byt (alg : Int) (m : List Int) : Byt (dig alg m) := by
 unfold dig
 refine Byt.take ?_ _
 unfold outF
 intro x hx
 split at hx
 ·obtain ⟨i, _, h⟩ := List.mem_flatMap.1 hx
  unfold Spec.w4 at h
  simp only[List.mem_cons,List.not_mem_nil,or_false] at h
  rcases h with rfl | rfl | rfl | rfl <;> exact wrap8 _
 ·obtain ⟨i, _, h⟩ := List.mem_flatMap.1 hx
  unfold v8 at h
  obtain ⟨k, _, rfl⟩ := List.mem_map.1 h
  exact wrap8 _
def allB (p : Nat → Nat → Bool) : Bool := (List.range 256).all fun x => (List.range 8).all fun o => p x o
theorem all_b {p : Nat → Nat → Bool} (h : allB p = true) {x o : Nat} (hx : x < 256) (ho : o < 8) : p x o = true := by
 have := List.all_eq_true.1 h x (List.mem_range.2 hx)
 exact List.all_eq_true.1 this o (List.mem_range.2 ho)
def dbB (o : Nat) (em veil : List Int) (j : Nat) : Int :=
 if j = 0 then bits .and .u8 (bits .xor .u8 (at' em 0) (at' veil 0)) ((255 : Int).fdiv (2 ^ o)) else bits .xor .u8 (at' em (j : Nat)) (at' veil (j : Nat))
def dbR (o dl : Nat) (em veil : List Int) : List Int := (List.range dl).map (dbB o em veil)
theorem dbR_len (o dl : Nat) (em veil : List Int) : (dbR o dl em veil).length = dl := by simp[dbR]
theorem at_dbR {o dl : Nat} {em veil : List Int} {j : Nat} (h : j < dl) : at' (dbR o dl em veil) (j : Nat) = dbB o em veil j := by
 rw[at_get (by rw [dbR_len]; exact h)]
 simp[dbR]
end Go.Proofs.YtcgplgpdcfocpaaGreatDoor.Der
end
section
namespace Go.Proofs.YtcgplgpdcfocpaaGreatDoor.Der
open Go Go.RowKit Go.Proofs Go.Proofs.YtcgplgpdcfocpaaGreatDoor.Eng Go.Proofs.YtcgplgpdcfocpaaGreatDoor.Code
attribute [local irreducible] callK S.W opsW scrW scrT
open Go.Proofs.YtcgplgpdcfocpaaGreatDoor.Spec Go.Proofs.YtcgplgpdcfocpaaGreatDoor.Big
end Go.Proofs.YtcgplgpdcfocpaaGreatDoor.Der
end
section
namespace Go.Proofs.YtcgplgpdcfocpaaGreatDoor.Der
open Go Go.RowKit Go.Proofs Go.Proofs.YtcgplgpdcfocpaaGreatDoor.Eng Go.Proofs.YtcgplgpdcfocpaaGreatDoor.Code
attribute [local irreducible] callK S.W opsW scrW scrT
open Go.Proofs.YtcgplgpdcfocpaaGreatDoor.Spec Go.Proofs.YtcgplgpdcfocpaaGreatDoor.Big
attribute [local irreducible] checkR sizeK rawR dig dbR
theorem alg_14 {alg : Int} (h : sizeI alg ≠ 0) : 1 ≤ alg ∧ alg ≤ 4 := by
 rcases alg_or h with ⟨rfl, _⟩ | ⟨rfl, _⟩ | ⟨rfl, _⟩ | ⟨rfl, _⟩ <;> decide
def Xd (L0 veil L : List Int) (o i : Nat) : Prop := L.length = L0.length ∧ ∀ j : Nat, at' L j = if o ≤ j ∧ j < o + i then bits .xor .u8 (at' L0 j) (at' veil ((j - o : Nat) : Int)) else at' L0 j
theorem Xd.zero (L0 veil : List Int) (o : Nat) : Xd L0 veil L0 o 0 := ⟨rfl, fun j => by rw[if_neg (by omega)]⟩
theorem Xd.step {L0 veil L : List Int} {o i : Nat} (h : Xd L0 veil L o i) (hi : o + i < L0.length) : Xd L0 veil (L.set (o + i) (bits .xor .u8 (at' L ((o + i : Nat) : Int)) (at' veil (i : Int)))) o (i + 1) := by
 refine ⟨by rw[List.length_set]; exact h.1, fun j => ?_⟩
 by_cases e : o + i = j
 ·subst e
  rw[Big.at_setN (by rw [h.1]; exact hi), if_pos (by omega), h.2, if_neg (by omega), show o + i - o = i by omega]
 ·rw[Big.at_setO e,h.2]
  by_cases c : o ≤ j ∧ j < o + i
  ·rw[if_pos c,if_pos (by omega)]
  ·rw[if_neg c,if_neg (by omega)]
theorem Xd.done {em pad veil L : List Int} {o dl ov : Nat} (h : Xd (em ++ pad) veil L o dl) (h0 : 0 < dl) (hl : o + dl ≤ em.length) : ((L.set o (bits .and .u8 (at' L (o : Int)) ((255 : Int).fdiv (2 ^ ov)))).drop o).take dl = dbR ov dl (em.drop o) veil := by
 have hL : L.length = em.length + pad.length := by rw[h.1,List.length_append]
 apply List.ext_getElem
 ·rw[List.length_take,List.length_drop,List.length_set,dbR_len]
  omega
 ·intro j h1 h2
  rw[dbR_len] at h2
  rw[← Big.at_get h1,← Big.at_get (by rw [dbR_len]; exact h2),Big.at_take h2,Big.at_drop,at_dbR h2]
  unfold dbB
  by_cases hj : j = 0
  ·subst hj
   have hx := h.2 o
   rw[if_pos (by omega),Nat.sub_self,Big.at_app (by omega)] at hx
   rw[Nat.add_zero,Big.at_setN (by omega),if_pos rfl,hx]
   have := Big.at_drop em 0 o
   rw[Nat.add_zero] at this
   rw[show (0 : Int) = ((0 : Nat) : Int) from rfl,this]
  ·rw[if_neg hj, Big.at_setO (by omega), h.2, if_pos (by omega), Big.at_app (by omega), show o + j - o = j by omega, Big.at_drop]
theorem Xd.rest {em pad veil L : List Int} {o dl h : Nat} {x : Int} (g : Xd (em ++ pad) veil L o dl) (h0 : 0 < dl) (hl : o + dl + h ≤ em.length) : ((L.set o x).drop (o + dl)).take h = ((em.drop o).drop dl).take h := by
 have hL : L.length = em.length + pad.length := by rw[g.1,List.length_append]
 apply List.ext_getElem
 ·simp only[List.length_take,List.length_drop,List.length_set]
  omega
 ·intro j h1 h2
  have hj : j < h := by
   simp only[List.length_take,List.length_drop] at h2
   omega
  rw[← Big.at_get h1,← Big.at_get h2,Big.at_take hj,Big.at_take hj,Big.at_drop,Big.at_drop,Big.at_drop,Big.at_setO (by omega),g.2,if_neg (by omega),Big.at_app (by omega),Nat.add_assoc]
end Go.Proofs.YtcgplgpdcfocpaaGreatDoor.Der
end
section
namespace Go.Proofs.YtcgplgpdcfocpaaGreatDoor.Der
open Go Go.RowKit Go.Proofs Go.Proofs.YtcgplgpdcfocpaaGreatDoor.Eng Go.Proofs.YtcgplgpdcfocpaaGreatDoor.Code
attribute [local irreducible] callK S.W opsW scrW scrT
open Go.Proofs.YtcgplgpdcfocpaaGreatDoor.Spec Go.Proofs.YtcgplgpdcfocpaaGreatDoor.Big
attribute [local irreducible] checkR sizeK rawR padR verR dig signR sigP
theorem dig_l {alg : Int} (h : sizeI alg ≠ 0) (m : List Int) : ((dig alg m).length : Int) = sizeI alg ∧ (dig alg m).length ≤ 64 := by
 obtain ⟨a1, a4⟩ := alg_14 h
 have := mk_size a1 a4
 have := dig_len a1 a4 m
 omega
theorem sign_no {N E D : List Int} {n k : Nat} {i alg : Int} {a : List Int} (kn : KnOf i N E D n k) (h : signR N D k alg a ≠ []) : (padR alg a k).2 = 0 ∧ signR N D k alg a = sigP N D k (padR alg a k).1 := by
 unfold signR at h ⊢
 by_cases e : (padR alg a k).2 = 0
 ·rw[if_pos e]
  exact ⟨e, rfl⟩
 ·rw[if_neg e] at h
  exact absurd rfl h
theorem sign_byt (N D : List Int) (k : Nat) (alg : Int) (a : List Int) : Byt (signR N D k alg a) ∧ (signR N D k alg a).length ≤ k := by
 unfold signR
 by_cases e : (padR alg a k).2 = 0
 ·rw[if_pos e]
  exact ⟨sgn_byt _ _ _ _, Nat.le_of_eq (sgn_len _ _ _ _)⟩
 ·rw[if_neg e]
  exact ⟨fun x hx => absurd hx (by simp), Nat.zero_le _⟩
end Go.Proofs.YtcgplgpdcfocpaaGreatDoor.Der
end
section
namespace Go.Proofs.YtcgplgpdcfocpaaGreatDoor.Der
open Go Go.RowKit Go.Proofs Go.Proofs.YtcgplgpdcfocpaaGreatDoor.Eng Go.Proofs.YtcgplgpdcfocpaaGreatDoor.Code
attribute [local irreducible] callK S.W opsW scrW scrT
open Go.Proofs.YtcgplgpdcfocpaaGreatDoor.Spec Go.Proofs.YtcgplgpdcfocpaaGreatDoor.Big
attribute [local irreducible] checkR sizeK rawR maskR dig dbR dbB
end Go.Proofs.YtcgplgpdcfocpaaGreatDoor.Der
end
section
namespace Go.Proofs.YtcgplgpdcfocpaaGreatDoor.Der
open Go Go.RowKit Go.Proofs Go.Proofs.YtcgplgpdcfocpaaGreatDoor.Eng Go.Proofs.YtcgplgpdcfocpaaGreatDoor.Code
attribute [local irreducible] callK S.W opsW scrW scrT
open Go.Proofs.YtcgplgpdcfocpaaGreatDoor.Spec Go.Proofs.YtcgplgpdcfocpaaGreatDoor.Big
attribute [local irreducible] checkR sizeK rawR dig maskR
theorem bx (a b : BitVec 8) : bits .xor .u8 (a.toNat : Int) (b.toNat : Int) = ((a ^^^ b).toNat : Int) := by
 have h := (a ^^^ b).isLt
 show (((BitVec.ofInt 8 (a.toNat : Int)) ^^^ (BitVec.ofInt 8 (b.toNat : Int))).toNat : Int) % 256 = _
 rw[BitVec.ofInt_natCast,BitVec.ofInt_natCast,BitVec.ofNat_toNat,BitVec.ofNat_toNat,BitVec.setWidth_eq,BitVec.setWidth_eq]
 omega
theorem at_byt {l : List Int} (h : Byt l) (j : Nat) : 0 ≤ at' l (j : Int) ∧ at' l (j : Int) < 256 := by
 rw[Big.at_nat,List.getD_eq_getElem?_getD]
 cases e : l[j]? with
 | none => simp
 | some x => exact h x (List.mem_of_getElem? e)
end Go.Proofs.YtcgplgpdcfocpaaGreatDoor.Der
end
section
namespace Go.Proofs.YtcgplgpdcfocpaaGreatDoor.Der
open Go Go.RowKit Go.Proofs Go.Proofs.YtcgplgpdcfocpaaGreatDoor.Eng Go.Proofs.YtcgplgpdcfocpaaGreatDoor.Code
attribute [local irreducible] callK S.W opsW scrW scrT
open Go.Proofs.YtcgplgpdcfocpaaGreatDoor.Spec Go.Proofs.YtcgplgpdcfocpaaGreatDoor.Big
attribute [local irreducible] checkR sizeK rawR padR verR dig signR sigP
theorem turn_1 : allB (fun x o => decide (bits .xor .u8 (x : Int) (IntKind.u8.wrap (1 * 2 ^ o)) ≠ (x : Int))) = true := by decide +kernel
def turnB (x : Int) (b : Nat) : Int := bits .xor .u8 x (IntKind.u8.wrap (1 * 2 ^ b))
theorem turn_ne {x : Int} {b : Nat} (hx : 0 ≤ x ∧ x < 256) (hb : b < 8) : turnB x b ≠ x := by
 have := of_decide_eq_true (all_b turn_1 (x := x.toNat) (o := b) (by omega) hb)
 rwa [Int.toNat_of_nonneg hx.1] at this
theorem turn_byt (x : Int) (b : Nat) : 0 ≤ turnB x b ∧ turnB x b < 256 := wrap8 _
theorem set_byt {l : List Int} (h : Byt l) (j : Nat) {x : Int} (hx : 0 ≤ x ∧ x < 256) : Byt (l.set j x) := fun y hy => by
 rcases List.mem_or_eq_of_mem_set hy with g | g
 ·exact h y g
 ·rw[g]; exact hx
theorem turned_no {i alg : Int} {N E D a : List Int} {n k : Nat} (kn : KnOf i N E D n k) (ha : Byt a) (h : signR N D k alg a ≠ []) {j b : Nat} (hj : j < k) (hb : b < 8) : verR N E alg a ((signR N D k alg a).set j (turnB (at' (signR N D k alg a) (j : Int)) b)) = 112 := by
 obtain ⟨e, h2⟩ := sign_no kn h
 have hl : (signR N D k alg a).length = k := by rw[h2]; exact sgn_len _ _ _ _
 have hs := (sign_byt N D k alg a).1
 refine ver_other kn.key ha e (set_byt hs j (turn_byt _ _)) (by rw[List.length_set]; exact hl) fun g => ?_
 rw[← h2] at g
 have g2 : at' ((signR N D k alg a).set j (turnB (at' (signR N D k alg a) (j : Int)) b)) (j : Int) = at' (signR N D k alg a) (j : Int) := congrArg (fun l => at' l (j : Int)) g
 rw[Big.at_setN (by omega)] at g2
 exact turn_ne (at_byt hs j) hb g2
set_option maxHeartbeats 8000000 in
theorem turned_k {w : World} (hT : Tb w) {v : Value} {i alg at_ bit : Int} {text : List Int} (hi : 0 ≤ i ∧ i < 256) (hat : 0 ≤ at_ ∧ at_ < 65536) (hbit : 0 ≤ bit ∧ bit < 256) (hv : Vw .u8 w v text) (hb : Byt text) {K : Value → World → Prop} (hK : ∀ w', Fr w w' nob → K (.bool true) w') : callK Tryz.prog 5 [.int .u8 i, .int .i64 alg, v, .int .u16 at_, .int .u8 bit] w K := by
 refine call_of Tryz.func5 Code.h5 (by simp[Code.c5]) ?_
 have qk := kn_all (i := i % 3) (by omega)
 obtain ⟨N, E, D, n, k, kn⟩ := qk
 have hv0 := hv
 obtain ⟨A, c, rfl, hc, hr⟩ := hv0
 have Ky := kn.key
 have nN : N.length ≤ 4194304 := Nat.le_trans Ky.nN (by decide)
 have nE : E.length ≤ 4194304 := Nat.le_trans Ky.nE (by decide)
 simp(disch:=omega)only[Zu,Zv,Zx,Zz,EZ,↓EP,↓reduceIte,Za,Zb,Zc,Zd,Ze,Zf,Zg,Zj,Zk,Zl,Zm,Zn,Zp,Zq,reduceCtorEq,Code.c5]
 by_cases h1 : (8192 : Int) < (text.length : Int)
 ·simp(disch:=omega)only[Zu,Zv,Zx,Zz,EZ,↓EP,↓reduceIte,Za,Zb,Zc,Zd,Ze,Zf,Zg,Zj,Zk,Zl,Zm,Zn,Zp,Zq,reduceCtorEq,h1]
  refine live8_k hT fun w2 f2 => ?_
  simp(disch:=omega)only[Zu,Zv,Zx,Zz,EZ,↓EP,↓reduceIte,Za,Zb,Zc,Zd,Ze,Zf,Zg,Zj,Zk,Zl,Zm,Zn,Zp,Zq,reduceCtorEq]
  exact hK _ f2
 simp(disch:=omega)only[Zu,Zv,Zx,Zz,EZ,↓EP,↓reduceIte,Za,Zb,Zc,Zd,Ze,Zf,Zg,Zj,Zk,Zl,Zm,Zn,Zp,Zq,reduceCtorEq,h1]
 refine rsize_k alg _ _ ?_
 by_cases h3 : sizeI alg = 0
 ·simp(disch:=omega)only[Zu,Zv,Zx,Zz,EZ,↓EP,↓reduceIte,Za,Zb,Zc,Zd,Ze,Zf,Zg,Zj,Zk,Zl,Zm,Zn,Zp,Zq,reduceCtorEq,h3]
  refine live8_k hT fun w2 f2 => ?_
  simp(disch:=omega)only[Zu,Zv,Zx,Zz,EZ,↓EP,↓reduceIte,Za,Zb,Zc,Zd,Ze,Zf,Zg,Zj,Zk,Zl,Zm,Zn,Zp,Zq,reduceCtorEq]
  exact hK _ f2
 have q14 := alg_14 h3
 have d1 := dig_l h3 text
 have sb := sign_byt N D k alg (dig alg text)
 have hk := Ky.small
 simp(disch:=omega)only[Zu,Zv,Zx,Zz,EZ,↓EP,↓reduceIte,Za,Zb,Zc,Zd,Ze,Zf,Zg,Zj,Zk,Zl,Zm,Zn,Zp,Zq,reduceCtorEq,h3]
 refine kn.run fun A1 B1 C1 w1 hA hB hC f1 => ?_
 simp(disch:=omega)only[Zu,Zv,Zx,Zz,EZ,↓EP,↓reduceIte,Za,Zb,Zc,Zd,Ze,Zf,Zg,Zj,Zk,Zl,Zm,Zn,Zp,Zq,reduceCtorEq]
 refine al_k [.slice none 0 0, .slice none 0 0] rfl fun w2 n2 => ?_
 simp(disch:=omega)only[Zu,Zv,Zx,Zz,EZ,↓EP,↓reduceIte,Za,Zb,Zc,Zd,Ze,Zf,Zg,Zj,Zk,Zl,Zm,Zn,Zp,Zq,reduceCtorEq]
 refine st_whole (cs := [.slice A1 n n, .slice B1 1 1]) n2.blk rfl rfl (by simp; exact ⟨rfl, rfl⟩) fun w3 p3 => ?_
 have hz2 := n2.size
 have f13 : Fr w1 w3 nob := (n2.fr nob).trans p3.fr fun x hx e => by omega
 have f03 := f1.nb f13
 have hN : Vw .u32 w3 (.slice A1 n n) N := Vw.of kn.lN (Nat.le_refl n) (hA.nb f13)
 have hE : Vw .u32 w3 (.slice B1 1 1) E := Vw.of kn.lE (Nat.le_refl 1) (hB.nb f13)
 simp(disch:=omega)only[Zu,Zv,Zx,Zz,EZ,↓EP,↓reduceIte,Za,Zb,Zc,Zd,Ze,Zf,Zg,Zj,Zk,Zl,Zm,Zn,Zp,Zq,reduceCtorEq]
 refine rdigest_vw q14.1 q14.2 (hv.nb f03) (by omega) hb _ fun v4 w4 g4 => ?_
 obtain ⟨A4, c4, rfl, hc4, hr4, _⟩ := g4.sl.read
 simp(disch:=omega)only[Zu,Zv,Zx,Zz,EZ,↓EP,↓reduceIte,Za,Zb,Zc,Zd,Ze,Zf,Zg,Zj,Zk,Zl,Zm,Zn,Zp,Zq,reduceCtorEq]
 refine sign_k kn g4.vw (dig_byt _ _) (by omega) fun v6 w6 g6 => ?_
 have f36 := g4.fr.nb g6.fr
 have qs := g6.sl
 have f06 := f03.nb f36
 rcases qs with ⟨h4, rfl⟩ | ⟨b, pad, rfl, hB⟩
 ·simp(disch:=omega)only[Zu,Zv,Zx,Zz,EZ,↓EP,↓reduceIte,Za,Zb,Zc,Zd,Ze,Zf,Zg,Zj,Zk,Zl,Zm,Zn,Zp,Zq,reduceCtorEq]
  refine live8_k (hT.fr f06 (fun x => x) (fun x => x)) fun w7 f7 => ?_
  simp(disch:=omega)only[Zu,Zv,Zx,Zz,EZ,↓EP,↓reduceIte,Za,Zb,Zc,Zd,Ze,Zf,Zg,Zj,Zk,Zl,Zm,Zn,Zp,Zq,reduceCtorEq]
  exact hK _ (f06.nb f7)
 by_cases h4 : signR N D k alg (dig alg text) = []
 ·simp(disch:=omega)only[Zu,Zv,Zx,Zz,EZ,↓EP,↓reduceIte,Za,Zb,Zc,Zd,Ze,Zf,Zg,Zj,Zk,Zl,Zm,Zn,Zp,Zq,reduceCtorEq,h4,List.length_nil]
  refine live8_k (hT.fr f06 (fun x => x) (fun x => x)) fun w7 f7 => ?_
  simp(disch:=omega)only[Zu,Zv,Zx,Zz,EZ,↓EP,↓reduceIte,Za,Zb,Zc,Zd,Ze,Zf,Zg,Zj,Zk,Zl,Zm,Zn,Zp,Zq,reduceCtorEq]
  exact hK _ (f06.nb f7)
 have hlen : (signR N D k alg (dig alg text)).length = k := by
  rw[(sign_no kn h4).2]
  exact sgn_len _ _ _ _
 have h5 : ¬ (k : Int) = 0 := by omega
 have j0 := Int.emod_nonneg at_ (b := (k : Int)) (by omega)
 have j1 := Int.emod_lt_of_pos at_ (b := (k : Int)) (by omega)
 have jl : (at_ % (k : Int)).toNat < (signR N D k alg (dig alg text) ++ pad).length := by rw[List.length_append]; omega
 have c0 : w6.cell? ⟨b, (at_ % (k : Int)).toNat, none⟩ = some (.int .u8 (at' (signR N D k alg (dig alg text)) (((at_ % (k : Int)).toNat : Nat) : Int))) := by
  refine hB.has _ _ ?_
  rw[nums_get jl,← Big.at_nat,Big.at_app (by omega)]
 have hup := g6.up b rfl
 have e1 := turned_no kn (dig_byt alg text) h4 (j := (at_ % (k : Int)).toNat) (b := (bit % 8).toNat) (by omega) (by omega)
 have e2 := e1
 rw[at_toNat] at e2
 have hs1 := set_byt sb.1 (at_ % (k : Int)).toNat (turn_byt (at' (signR N D k alg (dig alg text)) (((at_ % (k : Int)).toNat : Nat) : Int)) (bit % 8).toNat)
 have hl1 : ((signR N D k alg (dig alg text)).set (at_ % (k : Int)).toNat (turnB (at' (signR N D k alg (dig alg text)) (((at_ % (k : Int)).toNat : Nat) : Int)) (bit % 8).toNat)).length = k := by rw[List.length_set]; exact hlen
 have hset : (signR N D k alg (dig alg text) ++ pad).set (at_ % (k : Int)).toNat (turnB (at' (signR N D k alg (dig alg text)) (((at_ % (k : Int)).toNat : Nat) : Int)) (bit % 8).toNat) = (signR N D k alg (dig alg text)).set (at_ % (k : Int)).toNat (turnB (at' (signR N D k alg (dig alg text)) (((at_ % (k : Int)).toNat : Nat) : Int)) (bit % 8).toNat) ++ pad := List.set_append_left _ _ (by omega)
 simp(disch:=omega)only[Zu,Zv,Zx,Zz,EZ,↓EP,↓reduceIte,Za,Zb,Zc,Zd,Ze,Zf,Zg,Zj,Zk,Zl,Zm,Zn,Zp,Zq,reduceCtorEq,hlen,h5,j0,j1,c0,at_toNat]
 refine st_num hB jl fun w7 p7 => ?_
 have p7' : Put w6 w7 b (nums .u8 ((signR N D k alg (dig alg text)).set (at_ % (k : Int)).toNat (turnB (at' (signR N D k alg (dig alg text)) (((at_ % (k : Int)).toNat : Nat) : Int)) (bit % 8).toNat) ++ pad)) := by
  have q := p7
  rw[← hset]
  unfold turnB
  rw[at_toNat]
  exact q
 have f37 : Fr w3 w7 nob := f36.trans p7.fr fun x hx e => by have := g4.fr.size; omega
 have f47 : Fr w4 w7 nob := g6.fr.trans p7.fr fun x hx e => by omega
 have qv : Vw .u8 w7 (.slice (some ⟨b, 0, none⟩) (signR N D k alg (dig alg text)).length ((signR N D k alg (dig alg text)).length + pad.length)) ((signR N D k alg (dig alg text)).set (at_ % (k : Int)).toNat (turnB (at' (signR N D k alg (dig alg text)) (((at_ % (k : Int)).toNat : Nat) : Int)) (bit % 8).toNat)) := Vw.of (by rw[List.length_set]) (by omega) (p7'.blk.rd 0 (n := k) (by rw[List.drop_zero,nums_take,List.take_append_of_le_length (by omega),List.take_of_length_le (by omega)]))
 simp(disch:=omega)only[Zu,Zv,Zx,Zz,EZ,↓EP,↓reduceIte,Za,Zb,Zc,Zd,Ze,Zf,Zg,Zj,Zk,Zl,Zm,Zn,Zp,Zq,reduceCtorEq]
 refine (p3.blk.nb f37).ldAgg rfl ?_
 simp(disch:=omega)only[Zu,Zv,Zx,Zz,EZ,↓EP,↓reduceIte,Za,Zb,Zc,Zd,Ze,Zf,Zg,Zj,Zk,Zl,Zm,Zn,Zp,Zq,reduceCtorEq]
 refine verify_k (hN.nb f37) (hE.nb f37) Ky.lN kn.limE nN nE (g4.vw.nb f47) (dig_byt _ _) (by omega) qv hs1 (by omega) fun w8 f8 => ?_
 simp(disch:=omega)only[Zu,Zv,Zx,Zz,EZ,↓EP,↓reduceIte,Za,Zb,Zc,Zd,Ze,Zf,Zg,Zj,Zk,Zl,Zm,Zn,Zp,Zq,reduceCtorEq]
 refine num8_k ?_
 simp(disch:=omega)only[Zu,Zv,Zx,Zz,EZ,↓EP,↓reduceIte,Za,Zb,Zc,Zd,Ze,Zf,Zg,Zj,Zk,Zl,Zm,Zn,Zp,Zq,reduceCtorEq,e2]
 have f08 := f03.nb (f37.nb f8)
 refine live8_k (hT.fr f08 (fun x => x) (fun x => x)) fun w9 f9 => ?_
 simp(disch:=omega)only[Zu,Zv,Zx,Zz,EZ,↓EP,↓reduceIte,Za,Zb,Zc,Zd,Ze,Zf,Zg,Zj,Zk,Zl,Zm,Zn,Zp,Zq,reduceCtorEq]
 exact hK _ (f08.nb f9)
end Go.Proofs.YtcgplgpdcfocpaaGreatDoor.Der
end
section
namespace Go.Proofs.YtcgplgpdcfocpaaGreatDoor
open Go
theorem stand_of {P : Program} {fn : Func} (h : (fn.params.toList.all fun t => !P.wantsStandIn t) = true) : ∀ (j : Nat) t, fn.params[j]? = some t → P.wantsStandIn t = false := by
 intro j t hj
 have := List.all_eq_true.1 h t (by rw[Array.mem_toList_iff]; exact Array.mem_of_getElem? hj)
 simpa using this
open Go Go.ChangeShapes Go.WideShapes Go.ChangeAt Go.WideMaps Go.WideElems Go.RowKit Go.Proofs.YtcgplgpdcfocpaaGreatDoor.Eng Go.Proofs.YtcgplgpdcfocpaaGreatDoor.Der
theorem trodAll_five {H : Type} {enc : TypeId × Value → H} {P : Program} {w : World} {base : Nat} {spare : Nat → Bool} {held : Bool} {t0 t1 t2 t3 t4 : TypeId} {args : Array Value} {ds : List (DataW H)} {ps : List MemPlace} (h : DataW.TrodAll enc P w base spare held [t0, t1, t2, t3, t4] args.toList ds ps) :
  ∃ v0 v1 v2 v3 v4 d0 d1 d2 d3 d4 p0 p1 p2 p3 p4, args = #[v0, v1, v2, v3, v4] ∧ ds = [d0, d1, d2, d3, d4] ∧ ps = p0 ++ (p1 ++ (p2 ++ (p3 ++ p4))) ∧ DataW.Trod enc P w base spare held t0 v0 d0 p0 ∧ DataW.Trod enc P w base spare held t1 v1 d1 p1 ∧ DataW.Trod enc P w base spare held t2 v2 d2 p2 ∧ DataW.Trod enc P w base spare held t3 v3 d3 p3 ∧ DataW.Trod enc P w base spare held t4 v4 d4 p4 := by
 obtain ⟨v0, vs0, d0, ds0, p0, q0, hargs, rfl, rfl, h0, r0⟩ := trodAll_cons h
 obtain ⟨v1, vs1, d1, ds1, p1, q1, rfl, rfl, rfl, h1, r1⟩ := trodAll_cons r0
 obtain ⟨v2, vs2, d2, ds2, p2, q2, rfl, rfl, rfl, h2, r2⟩ := trodAll_cons r1
 obtain ⟨v3, vs3, d3, ds3, p3, q3, rfl, rfl, rfl, h3, r3⟩ := trodAll_cons r2
 obtain ⟨v4, vs4, d4, ds4, p4, q4, rfl, rfl, rfl, h4, r4⟩ := trodAll_cons r3
 obtain ⟨rfl, rfl, rfl⟩ := trodAll_nil r4
 exact ⟨v0, v1, v2, v3, v4, d0, d1, d2, d3, d4, p0, p1, p2, p3, p4, by cases args; simp_all, rfl, by simp, h0, h1, h2, h3, h4⟩
theorem wf_u16' {n : Int} (h : (Lit.int .u16 n).wf = true) : 0 ≤ n ∧ n < 65536 := by
 have := bounds_u16 h
 omega
theorem rsaTurned_walk {H : Type} {enc : TypeId × Value → H} (W : World) (base : Nat) (args : Array Value) (ds : List (DataW H)) (p : List MemPlace) (hA0 : DataW.TrodAll enc Tryz.prog W 0 (fun _ => true) true Tryz.f5.params.toList args.toList ds p)
  (hval : ∀ (j : Nat) t v, Tryz.f5.params[j]? = some t → args[j]? = some v → Value.okWide Tryz.prog W .any base t v) (hz : (DataW.weightsEach Tryz.prog Tryz.f5.params.toList ds).all (· ≤ reachBytes) = true) (hL : laidMetH Tryz.prog laid2 W) :
  callK Tryz.prog 5 args.toList W fun v w' => v = .bool true ∧ Fr W w' nob := by
 have hA : DataW.TrodAll enc Tryz.prog W 0 (fun _ => true) true Tryz.f5.params.toList args.toList ds p := hA0
 rw[Tryz.params5] at hA hval
 obtain ⟨v0, v1, v2, v3, v4, d0, d1, d2, d3, d4, p0, p1, p2, p3, p4, rfl, rfl, rfl, h0, h1, h2, h3, h4⟩ := trodAll_five hA
 obtain ⟨n0, rfl, -, -, w0⟩ := open_int Tryz.underlying5 (hval 0 5 v0 rfl rfl) h0
 obtain ⟨n1, rfl, -, -, w1⟩ := open_int Tryz.underlying3 (hval 1 3 v1 rfl rfl) h1
 obtain ⟨Ab, cb, lb, mb, rfl, hcb, h63b, -, hlb, hwb⟩ := Row.open_sl Tryz.underlying25 Tryz.underlying5 cells_u8 (hval 2 25 v2 rfl rfl) h2
 obtain ⟨n3, rfl, -, -, w3⟩ := open_int Tryz.underlying40 (hval 3 40 v3 rfl rfl) h3
 obtain ⟨n4, rfl, -, -, w4⟩ := open_int Tryz.underlying5 (hval 4 5 v4 rfl rfl) h4
 exact turned_k (of_laid hL) (Row.wf_u8 w0) (wf_u16' w3) (Row.wf_u8 w4) ⟨Ab, cb, rfl, hcb, hlb⟩ (byte_of hwb) fun w' f => ⟨rfl, f⟩
theorem rsaTurned_lifted (os : Os) (started : os.Started) (H : Type) (enc : TypeId × Value → H) :
  ReturnsInHanded {} Tryz.checked os 5 .any (fun w args => (Rows.rsaTurnedSpec.pre enc Tryz.prog Tryz.f5 [] false w args ∧ laidMetH Tryz.prog laid2 w) ∧ sizedMet enc Tryz.prog Tryz.f5 (OpenSpec.ofChange Rows.rsaTurnedSpec) false w args)
   (Rows.rsaTurnedSpec.post enc Tryz.prog Tryz.f5 false true false false) :=
 Row.lifted_of (C := Tryz.checked) (X := fun w _ => laidMetH Tryz.prog laid2 w) (fun _ _ _ hh h => h.of_heap hh) own started (by kernel_rfl) Tryz.func5
  (ChangeSpec.witness_shaped (enc := enc) (C := Tryz.checked) (os := os) (X := fun w _ => laidMetH Tryz.prog laid2 w) false (World.laidAll Tryz.prog os laid2) #[.int .u8 0, .int .i64 0, .slice none 0 0, .int .u16 0, .int .u8 0] 8 (World.laidAll_os _ _ _) (lay_shaped os) (by kernel_rfl) (by kernel_rfl) (by kernel_rfl) (door_met os _))
  laidOut (tb := 4) (by kernel_rfl) Tryz.underlying4 rfl (of_decide_eq_true (by kernel_rfl)) (fun ds h => by rw[show Tryz.f5.params.size = 5 by kernel_rfl] at h; obtain ⟨a, b, c, d, e, rfl⟩ := Row.len5 h; exact ⟨rfl, rfl, rfl⟩)
  (fun W base args ds p hA hval hz hL => rsaTurned_walk (enc := enc) W base args ds p hA hval hz hL)
theorem rsaTurned_holds : Rows.RsaTurnedSaid :=
 OpenClaim.holds_of_wide 5 Tryz.f5 rfl rfl rfl rfl rfl rfl rfl ⟨rfl, rfl, rfl, rfl, rfl⟩ rfl rfl rfl rfl rfl (by kernel_rfl) Tryz.func5 (by kernel_rfl)
  (of_decide_eq_true (by kernel_rfl)) (by unfold Func.isWrapper; first | (rw[if_pos (by decide +kernel)]; kernel_rfl) | (rw[if_neg (by decide +kernel)]; exact ⟨rfl, rfl⟩))
  (fun os started H enc _ => rsaTurned_lifted os started H enc)
theorem rsaTurned_card : Rows.RsaTurnedCardSaid :=
 Claim7.holds_tied_plain_at .later [] [.data, .data, .data, .pinned] true (true, "ed0f270b3f953eab1ddec2cd987d6191db15485d6d846c111d670dab35a1f37a") false
  rsaTurned_holds (fun _ h => by cases h) (by kernel_rfl) (fun _ h => by cases h) rsaTurned_row_tie rfl ⟨rfl, rfl⟩ (by kernel_rfl) rfl
  (fun f fn hf hfn => by
   obtain rfl : f = 5 := Option.some.inj ((show Tryz.prog.funcNamed "chirograph/chirographlaw08.RsaTurned" = some 5 by kernel_rfl).symm.trans hf) |>.symm
   obtain rfl : fn = Tryz.f5 := (Option.some.inj (Tryz.func5.symm.trans hfn)).symm
   exact ⟨by kernel_rfl, stand_of (by kernel_rfl)⟩)
  (by kernel_rfl)
end Go.Proofs.YtcgplgpdcfocpaaGreatDoor
end
