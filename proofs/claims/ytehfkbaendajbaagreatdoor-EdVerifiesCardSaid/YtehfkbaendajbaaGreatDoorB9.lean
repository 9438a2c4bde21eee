/-
  Shared, part 9: walks and plain laws; each theorem states its own conditions.
-/
import Derived.Test.YtehfkbaendajbaaGreatDoorB3
namespace Go.Proofs.YtehfkbaendajbaaGreatDoor
set_option linter.unusedSimpArgs false
set_option linter.unusedVariables false
set_option maxRecDepth 100000
set_option maxHeartbeats 8000000
section
open Go.RowKit
structure Sh where
 d : Nat
 r : Nat
 s0 : Nat × Nat × Nat
 s1 : Nat × Nat × Nat
 b0 : Nat × Nat × Nat
 b1 : Nat × Nat × Nat
def aV : Sh := ⟨64, 80, (1, 8, 7), (19, 61, 6), (28, 34, 39), (14, 18, 41)⟩
def qC : Sh := ⟨32, 64, (7, 18, 3), (17, 19, 10), (2, 13, 22), (6, 11, 25)⟩
def l9 (d x n : Nat) : Nat := x >>> n ||| (x <<< (d - n)) % 2 ^ d
def mG (d x : Nat) (t : Nat × Nat × Nat) : Nat := l9 d x t.1 ^^^ l9 d x t.2.1 ^^^ x >>> t.2.2
def zy (d x : Nat) (t : Nat × Nat × Nat) : Nat := l9 d x t.1 ^^^ l9 d x t.2.1 ^^^ l9 d x t.2.2
def beN (l : List Nat) : Nat := l.foldl (fun a b => a * 256 + b) 0
def zI : Nat → Nat → List Nat
 | 0, _ => []
 | k + 1, n => n / 256 ^ k % 256 :: zI k n
def Lp : List Nat := [4794697086780616226, 8158064640168781261, 13096744586834688815, 16840607885511220156, 4131703408338449720, 6480981068601479193, 10538285296894168987, 12329834152419229976, 15566598209576043074, 1334009975649890238, 2608012711638119052, 6128411473006802146, 8268148722764581231, 9286055187155687089, 11230858885718282805, 13951009754708518548, 16472876342353939154, 17275323862435702243, 1135362057144423861, 2597628984639134821, 3308224258029322869, 5365058923640841347, 6679025012923562964, 8573033837759648693, 10970295158949994411, 12119686244451234320, 12683024718118986047, 13788192230050041572, 14330467153632333762, 15395433587784984357, 489312712824947311, 1452737877330783856, 2861767655752347644, 3322285676063803686, 5560940570517711597, 5996557281743188959, 7280758554555802590, 8532644243296465576, 9350256976987008742, 10552545826968843579, 11727347734174303076, 12113106623233404929, 14000437183269869457, 14369950271660146224, 15101387698204529176, 15463397548674623760, 17586052441742319658, 1182934255886127544, 1847814050463011016, 2177327727835720531, 2830643537854262169, 3796741975233480872, 4115178125766777443, 5681478168544905931, 6601373596472566643, 7507060721942968483, 8399075790359081724, 8693463985226723168, 9568029438360202098, 10144078919501101548, 10430055236837252648, 11840083180663258601, 13761210420658862357, 14299343276471374635, 14566680578165727644, 15097957966210449927, 16922976911328602910, 17689382322260857208, 500013540394364858, 748580250866718886, 1242879168328830382, 1977374033974150939, 2944078676154940804, 3659926193048069267, 4368137639120453308, 4836135668995329356, 5532061633213252278, 6448918945643986474, 6902733635092675308, 7801388544844847127]
def xM : List Nat := [7640891576956012808, 13503953896175478587, 4354685564936845355, 11912009170470909681, 5840696475078001361, 11170449401992604703, 2270897969802886507, 6620516959819538809]
def Ls (s : Sh) (l : List Nat) : Nat := (l.getD 15 0 + mG s.d (l.getD 14 0) s.s0 + l.getD 6 0 + mG s.d (l.getD 1 0) s.s1) % 2 ^ s.d
def nJ (s : Sh) : Nat → List Nat → List Nat
 | 0, l => l
 | n + 1, l => nJ s n (Ls s l :: l)
def VQ (s : Sh) (b : List Nat) (t : Nat) : Nat := beN ((b.drop (t * (s.d / 8))).take (s.d / 8))
def kQ (s : Sh) (b : List Nat) : List Nat := (nJ s (s.r - 16) ((List.range 16).map (VQ s b)).reverse).reverse
structure V8 where
 a : Nat
 b : Nat
 c : Nat
 d : Nat
 e : Nat
 f : Nat
 g : Nat
 h : Nat
def shX (s : Sh) (v : V8) (k x : Nat) : Nat := (v.h + zy s.d v.e s.b1 + (v.e &&& v.f ^^^ (2 ^ s.d - 1 - v.e) &&& v.g) + k + x) % 2 ^ s.d
def shY (s : Sh) (v : V8) : Nat := zy s.d v.a s.b0 + (v.a &&& v.b ^^^ v.a &&& v.c ^^^ v.b &&& v.c)
def xP (s : Sh) (v : V8) (k x : Nat) : V8 := ⟨(shX s v k x + shY s v) % 2 ^ s.d, v.a, v.b, v.c, (v.d + shX s v k x) % 2 ^ s.d, v.e, v.f, v.g⟩
def shK (s : Sh) (t : Nat) : Nat := Lp.getD t 0 >>> (64 - s.d)
def kJ (s : Sh) (w : List Nat) : Nat → Nat → V8 → V8
 | 0, _, v => v
 | n + 1, t, v => kJ s w n (t + 1) (xP s v (shK s t) (w.getD t 0))
def V8.add (d : Nat) (h v : V8) : V8 := ⟨(h.a + v.a) % 2 ^ d, (h.b + v.b) % 2 ^ d, (h.c + v.c) % 2 ^ d, (h.d + v.d) % 2 ^ d, (h.e + v.e) % 2 ^ d, (h.f + v.f) % 2 ^ d, (h.g + v.g) % 2 ^ d, (h.h + v.h) % 2 ^ d⟩
def Cc (s : Sh) (h : V8) (b : List Nat) : V8 := h.add s.d (kJ s (kQ s b) s.r 0 h)
def kH (s : Sh) : Nat := 2 * s.d
def iV (s : Sh) : Nat → List Nat → V8 → V8
 | 0, _, h => h
 | n + 1, l, h => iV s n (l.drop (kH s)) (Cc s h (l.take (kH s)))
def fE (s : Sh) : V8 := ⟨xM.getD 0 0 >>> (64 - s.d), xM.getD 1 0 >>> (64 - s.d), xM.getD 2 0 >>> (64 - s.d), xM.getD 3 0 >>> (64 - s.d), xM.getD 4 0 >>> (64 - s.d), xM.getD 5 0 >>> (64 - s.d), xM.getD 6 0 >>> (64 - s.d), xM.getD 7 0 >>> (64 - s.d)⟩
def dW (s : Sh) (n : Nat) : Nat := 1 + s.d / 4 + (kH s - (n + (1 + s.d / 4)) % kH s) % kH s
def nK (s : Sh) (n : Nat) : List Nat := 128 :: (List.replicate (dW s n - 9) 0 ++ zI 8 (8 * n))
def V8.out (k : Nat) (v : V8) : List Nat := zI k v.a ++ (zI k v.b ++ (zI k v.c ++ (zI k v.d ++ (zI k v.e ++ (zI k v.f ++ (zI k v.g ++ zI k v.h))))))
def Ai (s : Sh) (m : List Nat) : List Nat := (iV s ((m ++ nK s m.length).length / kH s) (m ++ nK s m.length) (fE s)).out (s.d / 8)
def pY {α : Type} (n : Nat) (k : Nat → α) : α := Nat.rec (motive := fun _ => α) (k 0) (fun m _ => k (Nat.succ m)) n
theorem nC {α : Type} (n : Nat) (k : Nat → α) : pY n k = k n := by cases n <;> rfl
def FZ (s : Sh) : Nat → List Nat → List Nat
 | 0, l => l
 | n + 1, l => pY (Ls s l) fun x => FZ s n (x :: l)
theorem EC (s : Sh) : ∀ n l, FZ s n l = nJ s n l
 | 0, _ => rfl
 | n + 1, l => by rw [FZ, nC, EC s n, nJ]
def Yt (f : Nat → Nat) : List Nat → List Nat → List Nat
 | [], acc => acc
 | t :: l, acc => pY (f t) fun x => Yt f l (x :: acc)
theorem Nv (f : Nat → Nat) : ∀ l acc, Yt f l acc = (l.map f).reverse ++ acc
 | [], _ => rfl
 | t :: l, acc => by rw [Yt, nC, Nv f l]; simp
def V8.pY {α : Type} (v : V8) (k : V8 → α) : α := Go.Proofs.YtehfkbaendajbaaGreatDoor.pY v.a fun a => Go.Proofs.YtehfkbaendajbaaGreatDoor.pY v.b fun b => Go.Proofs.YtehfkbaendajbaaGreatDoor.pY v.c fun c => Go.Proofs.YtehfkbaendajbaaGreatDoor.pY v.d fun d => Go.Proofs.YtehfkbaendajbaaGreatDoor.pY v.e fun e => Go.Proofs.YtehfkbaendajbaaGreatDoor.pY v.f fun f => Go.Proofs.YtehfkbaendajbaaGreatDoor.pY v.g fun g => Go.Proofs.YtehfkbaendajbaaGreatDoor.pY v.h fun h => k ⟨a, b, c, d, e, f, g, h⟩
theorem V8.nC {α : Type} (v : V8) (k : V8 → α) : v.pY k = k v := by simp only [V8.pY, Go.Proofs.YtehfkbaendajbaaGreatDoor.nC]
def qE {α : Type} (s : Sh) : List Nat → Nat → V8 → (V8 → α) → α
 | [], _, v, k => k v
 | x :: w, t, v, k => pY (shX s v (shK s t) x) fun q => pY ((q + shY s v) % 2 ^ s.d) fun y => pY ((v.d + q) % 2 ^ s.d) fun z => qE s w (t + 1) ⟨y, v.a, v.b, v.c, z, v.e, v.f, v.g⟩ k
theorem xQ {α : Type} (s : Sh) (W : List Nat) (k : V8 → α) : ∀ (w : List Nat) (t : Nat) (v : V8), W.drop t = w → qE s w t v k = k (kJ s W w.length t v)
 | [], _, _, _ => rfl
 | x :: w, t, v, h => by
  have hx : W.getD t 0 = x := by
   have h1 : (W.drop t)[0]? = some x := by rw [h]; rfl
   rw [List.getElem?_drop, Nat.add_zero] at h1
   simp [h1]
  have h2 : W.drop (t + 1) = w := by rw [← List.drop_drop, h]; rfl
  rw [qE, nC, nC, nC, xQ s W k w (t + 1) _ h2, List.length_cons, kJ, hx]
  rfl
theorem ED (s : Sh) : ∀ n l, (nJ s n l).length = n + l.length
 | 0, l => by simp [nJ]
 | n + 1, l => by rw [nJ, ED s n]; simp; omega
theorem Je (s : Sh) (b : List Nat) (h : 16 ≤ s.r) : (kQ s b).length = s.r := by
 unfold kQ
 rw [List.length_reverse, ED, List.length_reverse, List.length_map, List.length_range]
 omega
def Lr {α : Type} (s : Sh) (h : V8) (b : List Nat) (k : V8 → α) : α := qE s (FZ s (s.r - 16) (Yt (VQ s b) (List.range 16) [])).reverse 0 h fun v => (h.add s.d v).pY k
theorem Qm {α : Type} (s : Sh) (hr : 16 ≤ s.r) (h : V8) (b : List Nat) (k : V8 → α) : Lr s h b k = k (Cc s h b) := by
 unfold Lr
 rw [Nv, List.append_nil, EC]
 show qE s (kQ s b) 0 h _ = _
 rw [xQ s (kQ s b) _ _ 0 _ List.drop_zero, Je s b hr, V8.nC]
 rfl
def Ll {α : Type} (s : Sh) : Nat → List Nat → V8 → (V8 → α) → α
 | 0, _, h, k => k h
 | n + 1, l, h, k => Lr s h (l.take (kH s)) fun v => Ll s n (l.drop (kH s)) v k
theorem Ey {α : Type} (s : Sh) (hr : 16 ≤ s.r) (k : V8 → α) : ∀ (n : Nat) (l : List Nat) (h : V8), Ll s n l h k = k (iV s n l h)
 | 0, _, _ => rfl
 | n + 1, l, h => by rw [Ll, Qm s hr, Ey s hr k n]; rfl
theorem VR : Ai aV (List.replicate 32 0) = [80, 70, 173, 193, 219, 168, 56, 134, 123, 43, 187, 253, 208, 195, 66, 62, 88, 181, 121, 112, 181, 38, 122, 144, 245, 121, 96, 146, 74, 135, 241, 150, 10, 106, 133, 234, 166, 66, 218, 200, 53, 66, 75, 93, 124, 141, 99, 124, 0, 64, 140, 122, 115, 218, 103, 43, 127, 73, 133, 33, 66, 11, 109, 211] := by
 unfold Ai
 rw [← Ey aV (by decide) (fun v => v.out (aV.d / 8))]
 decide +kernel
end
section
open Go.RowKit
abbrev BB : Nat := 65536
def oC : List Nat → Nat
 | [] => 0
 | d :: l => d + BB * oC l
def aB (n : Nat) : List Nat := if h : n = 0 then [] else n % BB :: aB (n / BB)
termination_by n
decreasing_by exact Nat.div_lt_self (Nat.pos_of_ne_zero h) (by decide)
theorem dY : aB 0 = [] := by rw [aB]; simp
theorem mD {n : Nat} (h : n ≠ 0) : aB n = n % BB :: aB (n / BB) := by rw [aB]; simp [h]
theorem Yj (n : Nat) : oC (aB n) = n := by
 induction n using Nat.strongRecOn with
 | ind n ih =>
  by_cases h : n = 0
  · subst h; rw [dY]; rfl
  · rw [mD h]
    show n % BB + BB * oC (aB (n / BB)) = n
    rw [ih _ (Nat.div_lt_self (Nat.pos_of_ne_zero h) (by decide))]
    exact Nat.mod_add_div n BB
theorem Np (l m : List Nat) : oC (l ++ m) = oC l + BB ^ l.length * oC m := by
 induction l with
 | nil => simp [oC]
 | cons d l ih => simp only [List.cons_append, oC, ih, List.length_cons]; rw [Nat.pow_succ, Nat.mul_add, Nat.add_assoc, Nat.mul_comm (BB ^ l.length) BB, Nat.mul_assoc]
theorem KD : ∀ l : List Nat, (∀ d ∈ l, d < BB) → oC l < BB ^ l.length
 | [], _ => by simp [oC]
 | d :: l, h => by
  have h1 := KD l (fun x hx => h x (List.mem_cons_of_mem _ hx))
  have h2 := h d List.mem_cons_self
  simp only [oC, List.length_cons, Nat.pow_succ, BB] at *
  omega
theorem kW : ∀ (l : List Nat), (∀ d ∈ l, d < BB) → (∀ h : l ≠ [], l.getLast h ≠ 0) → aB (oC l) = l
 | [], _, _ => dY
 | d :: l, h, hl => by
  have h2 := h d List.mem_cons_self
  have ih := kW l (fun x hx => h x (List.mem_cons_of_mem _ hx)) (fun h3 => by have := hl (by simp); rwa [List.getLast_cons h3] at this)
  have e1 : (d + BB * oC l) % BB = d := by simp only [BB] at *; omega
  have e2 : (d + BB * oC l) / BB = oC l := by simp only [BB] at *; omega
  have h0 : d + BB * oC l ≠ 0 := by
   intro h0
   have hz : oC l = 0 := by simp only [BB] at *; omega
   have hd : d = 0 := by omega
   rw [hz, dY] at ih
   subst ih
   exact hl (by simp) (by simpa using hd)
  show aB (d + BB * oC l) = d :: l
  rw [mD h0, e1, e2, ih]
theorem aa2 (n : Nat) : ∀ d ∈ aB n, d < BB := by
 induction n using Nat.strongRecOn with
 | ind n ih =>
  by_cases h : n = 0
  · subst h; rw [dY]; simp
  · rw [mD h]
    intro d hd
    rcases List.mem_cons.mp hd with rfl | hd
    · exact Nat.mod_lt _ (by decide)
    · exact ih _ (Nat.div_lt_self (Nat.pos_of_ne_zero h) (by decide)) d hd
theorem tC (n : Nat) : n < BB ^ (aB n).length := by
 have := KD (aB n) (aa2 n)
 rwa [Yj] at this
theorem sS : ∀ (n i : Nat) (h : i < (aB n).length), (aB n)[i] = n / BB ^ i % BB
 | n, i, h => by
  by_cases hn : n = 0
  · subst hn; simp [dY] at h
  · cases i with
    | zero => simp only [mD hn, List.getElem_cons_zero]; simp
    | succ i =>
     have h' : i < (aB (n / BB)).length := by simp only [mD hn, List.length_cons] at h; omega
     have ih := sS (n / BB) i h'
     simp only [mD hn, List.getElem_cons_succ, ih]
     rw [Nat.div_div_eq_div_mul, Nat.pow_succ, Nat.mul_comm BB]
theorem dK {n k : Nat} (h : n < BB ^ k) : (aB n).length ≤ k := by
  induction k generalizing n with
  | zero => have : n = 0 := by simpa using h
            subst this; simp [dY]
  | succ k ih =>
    by_cases hn : n = 0
    · subst hn; simp [dY]
    · rw [mD hn, List.length_cons]
      have := ih (n := n / BB) (Nat.div_lt_of_lt_mul (by rw [Nat.mul_comm, ← Nat.pow_succ]; exact h))
      omega
theorem iT (n k : Nat) : (aB n).length ≤ k ↔ n < BB ^ k :=
 ⟨fun h => Nat.lt_of_lt_of_le (tC n) (Nat.pow_le_pow_right (by decide) h), dK⟩
theorem qL (n k : Nat) : k < (aB n).length ↔ BB ^ k ≤ n := by
 have := iT n k; omega
theorem lD (n i : Nat) : n % BB ^ (i + 1) = n % BB ^ i + n / BB ^ i % BB * BB ^ i := by
 rw [Nat.mod_pow_succ, Nat.mul_comm]
theorem uy (n i : Nat) (h : (aB n).length ≤ i) : n % BB ^ i = n := Nat.mod_eq_of_lt ((iT n i).mp h)
theorem wI (n i : Nat) (h : (aB n).length ≤ i) : n / BB ^ i % BB = 0 := by rw [Nat.div_eq_of_lt ((iT n i).mp h)]; simp
theorem dR (n i : Nat) : n / BB ^ i % BB < BB := Nat.mod_lt _ (by decide)
def fV : Nat → (Nat → Nat) → Nat
 | 0, _ => 0
 | n + 1, f => fV n f + f n * BB ^ n
def upd (f : Nat → Nat) (j v : Nat) : Nat → Nat := fun i => if i = j then v else f i
theorem eU (f : Nat → Nat) (j v : Nat) : upd f j v j = v := by simp [upd]
theorem upd_ne (f : Nat → Nat) {j i : Nat} (v : Nat) (h : i ≠ j) : upd f j v i = f i := by simp [upd, h]
theorem qQ {n : Nat} {f g : Nat → Nat} (h : ∀ i, i < n → f i = g i) : fV n f = fV n g := by
 induction n with
 | zero => rfl
 | succ n ih => simp only [fV, ih (fun i hi => h i (by omega)), h n (by omega)]
theorem qF (n : Nat) : fV n (fun _ => 0) = 0 := by
 induction n with
 | zero => rfl
 | succ n ih => simp [fV, ih]
theorem kL {n : Nat} {f : Nat → Nat} {j v : Nat} (h : j < n) : fV n (upd f j v) + f j * BB ^ j = fV n f + v * BB ^ j := by
 induction n with
 | zero => omega
 | succ n ih =>
  simp only [fV]
  by_cases hj : j = n
  · subst hj
    rw [eU, qQ (f := upd f j v) (g := f) (fun i hi => upd_ne f v (by omega))]
    omega
  · rw [upd_ne f v (by omega : n ≠ j)]
    have := ih (by omega)
    omega
theorem xY (n : Nat) (f : Nat → Nat) : oC ((List.range n).map f) = fV n f := by
 induction n with
 | zero => rfl
 | succ n ih => rw [List.range_succ, List.map_append, Np, ih, List.length_map, List.length_range, fV]; simp [oC, Nat.mul_comm]
theorem NQ {n : Nat} {f : Nat → Nat} (h : ∀ i, i < n → f i < BB) : fV n f < BB ^ n := by
 have := KD ((List.range n).map f) (by intro d hd; obtain ⟨i, hi, rfl⟩ := List.mem_map.mp hd; exact h i (List.mem_range.mp hi))
 rwa [xY, List.length_map, List.length_range] at this
def row (n : Nat) (f : Nat → Nat) : Array Value := ((List.range n).map fun j => Value.int .u64 ((f j : Nat) : Int)).toArray
theorem BN (n : Nat) (f : Nat → Nat) : (row n f).size = n := by simp [row]
theorem gV {n j : Nat} (f : Nat → Nat) (h : j < n) : (row n f)[j]? = some (.int .u64 ((f j : Nat) : Int)) := by simp [row, h]
theorem iy {n j : Nat} (f : Nat → Nat) (v : Nat) : (row n f).setIfInBounds j (.int .u64 (v : Int)) = row n (upd f j v) := by
 apply Array.ext_getElem?
 intro i
 rw [Array.getElem?_setIfInBounds, BN]
 by_cases h : j = i
 · subst h
   by_cases hj : j < n
   · rw [if_pos rfl, if_pos hj, gV _ hj, eU]
   · rw [if_pos rfl, if_neg hj]; simp [row, hj]
 · rw [if_neg h]
   simp only [row, List.getElem?_toArray, List.getElem?_map]
   cases hr : (List.range n)[i]? with
   | none => rfl
   | some k =>
    have : k = i := by
     obtain ⟨hk, he⟩ := List.getElem?_eq_some_iff.mp hr
     simpa using he.symm
    subst this
    simp [upd, Ne.symm h]
theorem row_zero (n : Nat) : row n (fun _ => 0) = Array.replicate n (.int .u64 0) := by
 apply Array.ext_getElem?
 intro i
 simp only [row, List.getElem?_toArray, List.getElem?_map, Array.getElem?_replicate]
 by_cases h : i < n
 · simp [h]
 · simp [h]
theorem VK {w : World} {b n : Nat} {f : Nat → Nat} {t : TypeId} (h : w.heap[b]? = some (.cells (row n f) t)) : Rd w .u64 (some ⟨b, 0, none⟩) ((List.range n).map f) :=
 jC h (fun i hi => by
  have hi' : i < n := by simpa using hi
  rw [gV f hi']
  simp)
theorem YQ {w : World} {k : IntKind} {A : Option Addr} {xs : List Nat} (h : Rd w k A xs) (n : Nat) : Rd w k A (xs.take n) := fun i hi => by
 have hi' : i < xs.length := by rw [List.length_take] at hi; omega
 obtain ⟨b, off, hA, hc⟩ := h i hi'
 refine ⟨b, off, hA, ?_⟩
 rw [hc, List.getElem_take]
theorem Dv {l : List Nat} {k : Nat} (h : k < l.length) (h0 : l[k] = 0) : oC (l.take (k + 1)) = oC (l.take k) := by
 rw [List.take_succ_eq_append_getElem h, Np]
 simp [oC, h0]
theorem yX {ds : List Nat} (he : oC (ds.take 0) = oC ds) : aB (oC ds) = [] := by
 rw [← he]; exact dY
theorem VZ {ds : List Nat} {n : Nat} (hd : ∀ d ∈ ds, d < BB) (hn : n < (ds.take (n + 1)).length) (he : oC (ds.take (n + 1)) = oC ds) (h : (ds.take (n + 1))[n] ≠ 0) : aB (oC ds) = ds.take (n + 1) ∧ (aB (oC ds)).length = n + 1 := by
 have hl : (ds.take (n + 1)).length = n + 1 := by rw [List.length_take] at *; omega
 have e : aB (oC ds) = ds.take (n + 1) := by
  rw [← he]
  refine kW _ (fun d h => hd d (List.mem_of_mem_take h)) (fun h3 => ?_)
  rw [List.getLast_eq_getElem]
  simp only [hl, Nat.add_sub_cancel]
  exact h
 exact ⟨e, by rw [e, hl]⟩
theorem Qq {ds : List Nat} {n : Nat} (hn : n < (ds.take (n + 1)).length) (h : (ds.take (n + 1))[n] = 0) : oC (ds.take n) = oC (ds.take (n + 1)) := by
 have hl : n < ds.length := by rw [List.length_take] at hn; omega
 rw [List.getElem_take] at h
 exact (Dv hl h).symm
theorem kX (n : Int) (h : -9223372036854775808 ≤ n ∧ n ≤ 9223372036854775807) : wrap64 n = n := by unfold wrap64; omega
def Dn (w : World) (A : Option Addr) (c n : Nat) : Prop := Rd w .u64 A (aB n) ∧ (aB n).length ≤ c
theorem Dn.mono {w w' : World} {A : Option Addr} {c n : Nat} (h : Dn w A c n) {B : Nat} (hb : Below B w w') (hB : w.heap.size ≤ B) : Dn w' A c n := ⟨h.1.mono hb hB, h.2⟩
theorem Dn.next {w w' : World} {A : Option Addr} {c n : Nat} (h : Dn w A c n) (hb : Below w.heap.size w w') : Dn w' A c n := h.mono hb (Nat.le_refl _)
theorem Dn.cell {w : World} {A : Option Addr} {c n i : Nat} (h : Dn w A c n) (hi : i < (aB n).length) : ∃ b off, A = some ⟨b, off, none⟩ ∧ b < w.heap.size ∧ ∀ j, j < (aB n).length → w.cell? ⟨b, off + j, none⟩ = some (.int .u64 ((n / BB ^ j % BB : Nat) : Int)) := by
 obtain ⟨b, off, hA, hb, hc⟩ := h.1.place (by omega)
 exact ⟨b, off, hA, hb, fun j hj => by rw [hc j hj, sS]⟩
end
section
open Go.RowKit
abbrev dg (n i : Nat) : Nat := n / BB ^ i % BB
def Og (X Y L i : Nat) (f : Nat → Nat) (c : Nat) : Prop :=
 fV L f + c * BB ^ i = X % BB ^ i + Y % BB ^ i ∧ c ≤ 1 ∧ (∀ j, f j < BB) ∧ ∀ j, i ≤ j → f j = 0
theorem Qp (X Y L : Nat) : Og X Y L 0 (fun _ => 0) 0 :=
 ⟨by simp [qF, Nat.mod_one], by omega, fun _ => (by decide : (0:Nat) < BB), fun _ _ => rfl⟩
theorem wE (t Q : Nat) : t % BB * Q + t / BB * (Q * BB) = t * Q := by
  have h := Nat.div_add_mod t BB
  calc t % BB * Q + t / BB * (Q * BB) = (BB * (t / BB) + t % BB) * Q := by
        rw [Nat.add_mul, Nat.mul_comm BB (t / BB), Nat.mul_assoc (t / BB), Nat.mul_comm BB Q, Nat.add_comm]
    _ = t * Q := by rw [h]
theorem Jf {X Y L i c : Nat} {f : Nat → Nat} (h : Og X Y L i f c) (hi : i < L) : Og X Y L (i + 1) (upd f i ((dg X i + c + dg Y i) % BB)) ((dg X i + c + dg Y i) / BB) := by
 obtain ⟨h1, h2, h3, h4⟩ := h
 have hx := dR X i
 have hy := dR Y i
 refine ⟨?_, ?_, ?_, ?_⟩
 · have hv := kL (f := f) (v := (dg X i + c + dg Y i) % BB) hi
   rw [h4 i (Nat.le_refl _), Nat.zero_mul, Nat.add_zero] at hv
   rw [hv, lD X i, lD Y i, Nat.pow_succ, Nat.add_assoc, wE, Nat.add_mul, Nat.add_mul]
   simp only [dg] at *
   omega
 · simp only [dg, BB] at *
   omega
 · intro j
   by_cases hj : j = i
   · subst hj; rw [eU]; exact Nat.mod_lt _ (by decide)
   · rw [upd_ne _ _ hj]; exact h3 j
 · intro j hj
   rw [upd_ne _ _ (by omega)]
   exact h4 j (by omega)
theorem Y8 {X Y L c : Nat} {f : Nat → Nat} (h : Og X Y (L + 1) L f c) (hX : (aB X).length ≤ L) (hY : (aB Y).length ≤ L) :
 fV (L + 1) (upd f L c) = X + Y ∧ ∀ j, upd f L c j < BB := by
 obtain ⟨h1, h2, h3, h4⟩ := h
 have hv := kL (n := L + 1) (f := f) (j := L) (v := c) (by omega)
 rw [h4 L (Nat.le_refl _), Nat.zero_mul, Nat.add_zero] at hv
 refine ⟨by rw [hv, h1, uy X L hX, uy Y L hY], fun j => ?_⟩
 by_cases hj : j = L
 · subst hj; rw [eU]; simp only [BB]; omega
 · rw [upd_ne _ _ hj]; exact h3 j
def Rl (X Y L i : Nat) (f : Nat → Nat) (b : Nat) : Prop :=
 fV L f + Y % BB ^ i = X % BB ^ i + b * BB ^ i ∧ b ≤ 1 ∧ (∀ j, f j < BB) ∧ ∀ j, i ≤ j → f j = 0
theorem PX (X Y L : Nat) : Rl X Y L 0 (fun _ => 0) 0 :=
 ⟨by simp [qF, Nat.mod_one], by omega, fun _ => (by decide : (0:Nat) < BB), fun _ _ => rfl⟩
theorem IE {X Y L i b : Nat} {f : Nat → Nat} (h : Rl X Y L i f b) (hi : i < L) : Rl X Y L (i + 1) (upd f i ((BB + dg X i - b - dg Y i) % BB)) (1 - (BB + dg X i - b - dg Y i) / BB) := by
 obtain ⟨h1, h2, h3, h4⟩ := h
 have hx := dR X i
 have hy := dR Y i
 refine ⟨?_, Nat.sub_le 1 _, ?_, ?_⟩
 · have hv := kL (f := f) (v := (BB + dg X i - b - dg Y i) % BB) hi
   rw [h4 i (Nat.le_refl _), Nat.zero_mul, Nat.add_zero] at hv
   rw [hv, lD X i, lD Y i, Nat.pow_succ]
   obtain ⟨t, ht⟩ : ∃ t, t = BB + dg X i - b - dg Y i := ⟨_, rfl⟩
   have hc := wE t (BB ^ i)
   have ht2 : t + b + dg Y i = BB + dg X i := by simp only [dg, BB] at *; omega
   have hq : t / BB ≤ 1 := by simp only [dg, BB] at *; omega
   have e1 : (1 - t / BB) * (BB ^ i * BB) + t / BB * (BB ^ i * BB) = BB ^ i * BB := by rw [← Nat.add_mul, Nat.sub_add_cancel hq, Nat.one_mul]
   have e2 : t * BB ^ i + b * BB ^ i + dg Y i * BB ^ i = BB ^ i * BB + dg X i * BB ^ i := by rw [← Nat.add_mul, ← Nat.add_mul, ht2, Nat.add_mul, Nat.mul_comm BB]
   rw [← ht]
   simp only [dg] at *
   omega
 · intro j
   by_cases hj : j = i
   · subst hj; rw [eU]; exact Nat.mod_lt _ (by decide)
   · rw [upd_ne _ _ hj]; exact h3 j
 · intro j hj
   rw [upd_ne _ _ (by omega)]
   exact h4 j (by omega)
theorem Yu {X Y L b : Nat} {f : Nat → Nat} (h : Rl X Y L L f b) (hX : (aB X).length ≤ L) (hYX : Y ≤ X) : fV L f = X - Y ∧ ∀ j, f j < BB := by
 obtain ⟨h1, h2, h3, h4⟩ := h
 have hX2 := (iT X L).mp hX
 rw [Nat.mod_eq_of_lt hX2, Nat.mod_eq_of_lt (Nat.lt_of_le_of_lt hYX hX2)] at h1
 have hlt := NQ (n := L) (f := f) (fun i _ => h3 i)
 have : b = 0 := by
  rcases Nat.eq_zero_or_pos b with h | h
  · exact h
  · have : b = 1 := by omega
    subst this; omega
 subst this
 exact ⟨by omega, h3⟩
def RG (X Y L lb i : Nat) (f : Nat → Nat) : Prop := fV L f = X % BB ^ i * Y ∧ (∀ j, f j < BB) ∧ ∀ j, i + lb ≤ j → f j = 0
def Oh (X Y L lb i k : Nat) (f : Nat → Nat) (c : Nat) : Prop :=
 fV L f + c * BB ^ (i + k) = X % BB ^ i * Y + dg X i * BB ^ i * (Y % BB ^ k) ∧ c < BB ∧ (∀ j, f j < BB) ∧ ∀ j, i + lb ≤ j → f j = 0
theorem Qs (X Y L lb : Nat) : RG X Y L lb 0 (fun _ => 0) := ⟨by simp [qF, Nat.mod_one], fun _ => (by decide : (0:Nat) < BB), fun _ _ => rfl⟩
theorem Zc {X Y L lb i : Nat} {f : Nat → Nat} (h : RG X Y L lb i f) : Oh X Y L lb i 0 f 0 := ⟨by rw [h.1]; simp [Nat.mod_one], by decide, h.2.1, h.2.2⟩
theorem V5 {X Y L lb i k c : Nat} {f : Nat → Nat} (h : Oh X Y L lb i k f c) (hk : k < lb) (hL : i + lb < L) :
 Oh X Y L lb i (k + 1) (upd f (i + k) ((f (i + k) + dg X i * dg Y k + c) % BB)) ((f (i + k) + dg X i * dg Y k + c) / BB) := by
 obtain ⟨h1, h2, h3, h4⟩ := h
 have hx := dR X i
 have hy := dR Y k
 have hm : dg X i * dg Y k ≤ 65535 * 65535 := Nat.mul_le_mul (by simp only [dg, BB] at *; omega) (by simp only [dg, BB] at *; omega)
 refine ⟨?_, ?_, ?_, ?_⟩
 · obtain ⟨t, ht⟩ : ∃ t, t = f (i + k) + dg X i * dg Y k + c := ⟨_, rfl⟩
   have hv := kL (f := f) (j := i + k) (v := t % BB) (n := L) (by omega)
   have hc := wE t (BB ^ (i + k))
   rw [← ht, show i + (k + 1) = i + k + 1 by omega, Nat.pow_succ, lD Y k, Nat.mul_add]
   have e1 : t * BB ^ (i + k) = f (i + k) * BB ^ (i + k) + dg X i * BB ^ i * (dg Y k * BB ^ k) + c * BB ^ (i + k) := by
    rw [ht, Nat.add_mul, Nat.add_mul, Nat.pow_add]
    congr 2
    rw [Nat.mul_assoc, Nat.mul_assoc, Nat.mul_left_comm (dg Y k)]
   simp only [dg] at *
   omega
 · have := h3 (i + k)
   simp only [dg, BB] at *
   omega
 · intro j
   by_cases hj : j = i + k
   · subst hj; rw [eU]; exact Nat.mod_lt _ (by decide)
   · rw [upd_ne _ _ hj]; exact h3 j
 · intro j hj
   rw [upd_ne _ _ (by omega)]
   exact h4 j hj
theorem Zb {X Y L lb i c : Nat} {f : Nat → Nat} (h : Oh X Y L lb i lb f c) (hY : (aB Y).length ≤ lb) (hL : i + lb < L) : RG X Y L lb (i + 1) (upd f (i + lb) c) := by
 obtain ⟨h1, h2, h3, h4⟩ := h
 have hv := kL (f := f) (j := i + lb) (v := c) (n := L) hL
 rw [h4 _ (Nat.le_refl _), Nat.zero_mul, Nat.add_zero, h1, uy Y lb hY] at hv
 refine ⟨by rw [hv, lD X i, Nat.add_mul], fun j => ?_, fun j hj => ?_⟩
 · by_cases hj : j = i + lb
   · subst hj; rw [eU]; exact h2
   · rw [upd_ne _ _ hj]; exact h3 j
 · rw [upd_ne _ _ (by omega)]; exact h4 j (by omega)
theorem V4 {X Y L lb la : Nat} {f : Nat → Nat} (h : RG X Y L lb la f) (hX : (aB X).length ≤ la) : fV L f = X * Y ∧ ∀ j, f j < BB := ⟨by rw [h.1, uy X la hX], h.2.1⟩
theorem Z8 {X Y L i c : Nat} {f : Nat → Nat} (h : Og X Y L i f c) : dg X i + c + dg Y i < 131074 := by
 have h1 := dR X i
 have h2 := dR Y i
 have h3 := h.2.1
 simp only [dg, BB] at *
 omega
theorem afC {X Y L lb i k c : Nat} {f : Nat → Nat} (h : Oh X Y L lb i k f c) : f (i + k) + dg X i * dg Y k + c < 4294967296 := by
 have hx := dR X i
 have hy := dR Y k
 have hm : dg X i * dg Y k ≤ 65535 * 65535 := Nat.mul_le_mul (by simp only [dg, BB] at *; omega) (by simp only [dg, BB] at *; omega)
 have h2 := h.2.1
 have h3 := h.2.2.1 (i + k)
 simp only [dg, BB] at *
 omega
theorem UJ {X Y : Nat} (h : (aB X).length ≠ (aB Y).length) : decide ((aB X).length < (aB Y).length) = decide (X < Y) := by
 have h1 := qL Y (aB X).length
 have h2 := qL X (aB Y).length
 have h3 := tC X
 have h4 := tC Y
 rw [decide_eq_decide]
 omega
theorem Ym {X Y k : Nat} (h : X / BB ^ (k + 1) = Y / BB ^ (k + 1)) (hne : dg X k ≠ dg Y k) : decide (dg X k < dg Y k) = decide (X < Y) := by
 have hx := Nat.div_add_mod (X / BB ^ k) BB
 have hy := Nat.div_add_mod (Y / BB ^ k) BB
 rw [Nat.pow_succ, ← Nat.div_div_eq_div_mul, ← Nat.div_div_eq_div_mul] at h
 rw [decide_eq_decide]
 have key : X / BB ^ k < Y / BB ^ k ↔ dg X k < dg Y k := by rw [h] at hx; simp only [dg] at *; omega
 rw [← key]
 constructor
 · intro h5
   exact Nat.lt_of_not_le (fun h6 => by have := Nat.div_le_div_right (c := BB ^ k) h6; omega)
 · intro h5
   have h6 := Nat.div_le_div_right (c := BB ^ k) (Nat.le_of_lt h5)
   have h7 : X / BB ^ k ≠ Y / BB ^ k := fun e => hne (by simp only [dg, e])
   omega
theorem adQ {X Y k : Nat} (h : X / BB ^ (k + 1) = Y / BB ^ (k + 1)) (he : dg X k = dg Y k) : X / BB ^ k = Y / BB ^ k := by
 have hx := Nat.div_add_mod (X / BB ^ k) BB
 have hy := Nat.div_add_mod (Y / BB ^ k) BB
 rw [Nat.pow_succ, ← Nat.div_div_eq_div_mul, ← Nat.div_div_eq_div_mul] at h
 simp only [dg] at he
 rw [h, he] at hx
 omega
theorem V6 (X : Nat) : X / BB ^ (aB X).length = 0 := Nat.div_eq_of_lt (tC X)
theorem Qy (n : Nat) (h : n < 18446744073709551616) : IntKind.u64.wrap (n : Int) = (n : Int) := by rw [IntKind.wrap_u64]; omega
theorem F7 (a b : Nat) (h : a + b < 18446744073709551616) : IntKind.u64.wrap ((a : Int) + (b : Int)) = ((a + b : Nat) : Int) := by rw [IntKind.wrap_u64]; omega
theorem Zi (a b : Nat) (h : a * b < 18446744073709551616) : IntKind.u64.wrap ((a : Int) * (b : Int)) = ((a * b : Nat) : Int) := by
 rw [← Int.natCast_mul]; exact Qy _ h
theorem vq3 (a b c : Nat) : Value.int .u64 (((a : Int) + b + c) / 65536) = Value.int .u64 (((a + b + c) / BB : Nat) : Int) := congrArg (Value.int .u64) (by simp only [BB]; omega)
theorem vr3 (a b c : Nat) : ((a : Int) + b + c) % 65536 = (((a + b + c) % BB : Nat) : Int) := by simp only [BB]; omega
theorem vq2 (a b : Nat) : Value.int .u64 (((a : Int) + b) / 65536) = Value.int .u64 (((a + b) / BB : Nat) : Int) := congrArg (Value.int .u64) (by simp only [BB]; omega)
theorem vr2 (a b : Nat) : ((a : Int) + b) % 65536 = (((a + b) % BB : Nat) : Int) := by simp only [BB]; omega
theorem Jl (i : Nat) (h : i < 9223372036854775807) : Value.int .i64 (wrap64 ((i : Int) + 1)) = Value.int .i64 ((i + 1 : Nat) : Int) := congrArg (Value.int .i64) (by rw [kX _ (by omega)]; omega)
theorem vbo (s : Nat) (h : s < 131072) : Value.int .u64 (IntKind.u64.wrap (1 - IntKind.u64.wrap ((s : Int) / 65536))) = Value.int .u64 ((1 - s / BB : Nat) : Int) := congrArg (Value.int .u64) (by rw [IntKind.wrap_u64, IntKind.wrap_u64]; simp only [BB]; omega)
theorem vr1 (s : Nat) : (s : Int) % 65536 = ((s % BB : Nat) : Int) := by simp only [BB]; omega
theorem vq1 (s : Nat) (h : s < 4294967296) : Value.int .u64 (IntKind.u64.wrap ((s : Int) / 65536)) = Value.int .u64 ((s / BB : Nat) : Int) := congrArg (Value.int .u64) (by rw [IntKind.wrap_u64]; simp only [BB]; omega)
theorem vim (k : Nat) (h : k < 9223372036854775807) : Value.int .i64 (wrap64 ((k : Int) - 1)) = Value.int .i64 ((k : Int) - 1) := congrArg (Value.int .i64) (kX _ (by omega))
theorem PW (k : Nat) (h : k < 9223372036854775807) : (intOf (.int .i64 (wrap64 ((k : Int) - 1))) + 1).toNat < (intOf (.int .i64 (k : Int)) + 1).toNat := by
 rw [kX _ (by omega)]
 show ((k : Int) - 1 + 1).toNat < ((k : Int) + 1).toNat
 omega
theorem jd (L i : Nat) (hi : i < L) (h : i < 9223372036854775807) : ((L : Int) - intOf (.int .i64 (wrap64 ((i : Int) + 1)))).toNat < ((L : Int) - intOf (.int .i64 (i : Int))).toNat := by
 rw [kX _ (by omega)]
 show ((L : Int) - ((i : Int) + 1)).toNat < ((L : Int) - (i : Int)).toNat
 omega
theorem Dc (n : Int) : IntKind.i64.wrap n = wrap64 n := by rw [IntKind.wrap_i64]; unfold wrap64; rfl
theorem aeY (n : Nat) (h : n < 9223372036854775807) : wrap64 ((n : Int) + 1) = (n : Int) + 1 := kX _ (by omega)
end
section
open Go.RowKit
abbrev zV (n j : Nat) : Nat := n / 256 ^ j % 256
def dw (k n : Nat) : List Nat := (List.range k).map (zV n)
theorem kV (k n : Nat) : (dw k n).length = k := by simp [dw]
theorem qj (k n : Nat) : ∀ b ∈ dw k n, b < 256 := by
 intro b hb
 obtain ⟨i, _, rfl⟩ := List.mem_map.mp hb
 exact Nat.mod_lt _ (by decide)
def tV (n : Nat) (f : Nat → Nat) : Array Value := ((List.range n).map fun j => Value.int .u8 ((f j : Nat) : Int)).toArray
theorem Qk (n : Nat) (f : Nat → Nat) : (tV n f).size = n := by simp [tV]
theorem qB {n j : Nat} (f : Nat → Nat) (h : j < n) : (tV n f)[j]? = some (.int .u8 ((f j : Nat) : Int)) := by simp [tV, h]
theorem xJ {n j : Nat} (f : Nat → Nat) (v : Nat) : (tV n f).setIfInBounds j (.int .u8 (v : Int)) = tV n (upd f j v) := by
 apply Array.ext_getElem?
 intro i
 rw [Array.getElem?_setIfInBounds, Qk]
 by_cases h : j = i
 · subst h
   by_cases hj : j < n
   · rw [if_pos rfl, if_pos hj, qB _ hj, eU]
   · rw [if_pos rfl, if_neg hj]; simp [tV, hj]
 · rw [if_neg h]
   simp only [tV, List.getElem?_toArray, List.getElem?_map]
   cases hr : (List.range n)[i]? with
   | none => rfl
   | some k =>
    have : k = i := by
     obtain ⟨hk, he⟩ := List.getElem?_eq_some_iff.mp hr
     simpa using he.symm
    subst this
    simp [upd, Ne.symm h]
theorem YS {w : World} {b n : Nat} {f : Nat → Nat} {t : TypeId} (h : w.heap[b]? = some (.cells (tV n f) t)) : Rd w .u8 (some ⟨b, 0, none⟩) ((List.range n).map f) :=
 jC h (fun i hi => by
  have hi' : i < n := by simpa using hi
  rw [qB f hi']
  simp)
theorem Ak (i : Nat) : BB ^ i = 256 ^ (2 * i) := by rw [Nat.pow_mul]
theorem RY (n i : Nat) : dg n i % 256 = zV n (2 * i) := by
 simp only [dg, zV, Ak]
 generalize n / 256 ^ (2 * i) = q
 simp only [BB]; omega
theorem Xo (n i : Nat) : dg n i / 256 = zV n (2 * i + 1) := by
 simp only [dg, zV, Ak]
 rw [Nat.pow_succ, ← Nat.div_div_eq_div_mul]
 generalize n / 256 ^ (2 * i) = q
 simp only [BB]; omega
def NU (X i : Nat) (f : Nat → Nat) : Prop := ∀ j, f j = if j < 2 * i then zV X j else 0
theorem DY (X : Nat) : NU X 0 (fun _ => 0) := fun j => by simp
theorem GI {X i : Nat} {f : Nat → Nat} (h : NU X i f) : NU X (i + 1) (upd (upd f (2 * i) (dg X i % 256)) (2 * i + 1) (dg X i / 256)) := by
 intro j
 by_cases h1 : j = 2 * i + 1
 · subst h1; rw [eU, Xo, if_pos (by omega)]
 · rw [upd_ne _ _ h1]
   by_cases h2 : j = 2 * i
   · subst h2; rw [eU, RY, if_pos (by omega)]
   · rw [upd_ne _ _ h2, h j]
     by_cases h3 : j < 2 * i
     · rw [if_pos h3, if_pos (by omega)]
     · rw [if_neg h3, if_neg (by omega)]
theorem MF {X L : Nat} {f : Nat → Nat} (h : NU X L f) (hL : (aB X).length ≤ L) : (List.range 32).map f = dw 32 X := by
 unfold dw
 refine List.map_congr_left (fun j _ => ?_)
 rw [h j]
 by_cases hj : j < 2 * L
 · rw [if_pos hj]
 · rw [if_neg hj]
   have h1 := (iT X L).mp hL
   rw [Ak] at h1
   have h2 : X < 256 ^ j := Nat.lt_of_lt_of_le h1 (Nat.pow_le_pow_right (by decide) (by omega))
   simp only [zV, Nat.div_eq_of_lt h2]
theorem xC (l : List Nat) (i : Nat) (h : i < l.length) : bW (l.take (i + 1)) = bW (l.take i) + l[i] * 256 ^ i := by
 induction l generalizing i with
 | nil => simp at h
 | cons b l ih =>
  cases i with
  | zero => simp [bW]
  | succ i =>
   simp only [List.take_succ_cons, bW, List.getElem_cons_succ]
   rw [ih i (by simpa using h), Nat.pow_succ, Nat.mul_add, Nat.mul_comm (256 ^ i) 256, Nat.mul_left_comm 256, Nat.add_assoc]
def Gw (bs : List Nat) (L i : Nat) (f : Nat → Nat) : Prop := fV L f = bW (bs.take i) ∧ (∀ j, f j < BB) ∧ (∀ j, i ≤ 2 * j → f j = 0) ∧ (i % 2 = 1 → f (i / 2) < 256)
theorem P8 (bs : List Nat) (L : Nat) : Gw bs L 0 (fun _ => 0) := ⟨by simp [qF, bW], fun _ => (by decide : (0:Nat) < BB), fun _ _ => rfl, fun _ => (by decide : (0:Nat) < 256)⟩
theorem YD {bs : List Nat} {L i : Nat} {f : Nat → Nat} (h : Gw bs L i f) (hi : i < bs.length) (hL : i / 2 < L) (hb : bs[i] < 256) (ho : i % 2 = 1) : Gw bs L (i + 1) (upd f (i / 2) (f (i / 2) + bs[i] * 256)) := by
 obtain ⟨h1, h2, h3, h4⟩ := h
 have h5 := h4 ho
 have e : BB ^ (i / 2) * 256 = 256 ^ i := by rw [Ak, ← Nat.pow_succ]; congr 1; omega
 refine ⟨?_, fun j => ?_, fun j hj => ?_, fun h6 => by omega⟩
 · have hv := kL (n := L) (f := f) (j := i / 2) (v := f (i / 2) + bs[i] * 256) hL
   rw [xC bs i hi, ← e, ← h1]
   rw [Nat.add_mul, Nat.mul_assoc, Nat.mul_comm 256 (BB ^ (i / 2))] at hv
   omega
 · by_cases hj : j = i / 2
   · subst hj; rw [eU]; simp only [BB]; omega
   · rw [upd_ne _ _ hj]; exact h2 j
 · rw [upd_ne _ _ (by omega)]; exact h3 j (by omega)
theorem Va {bs : List Nat} {L i : Nat} {f : Nat → Nat} (h : Gw bs L i f) (hi : i < bs.length) (hL : i / 2 < L) (hb : bs[i] < 256) (ho : ¬ i % 2 = 1) : Gw bs L (i + 1) (upd f (i / 2) (f (i / 2) + bs[i])) := by
 obtain ⟨h1, h2, h3, h4⟩ := h
 have h5 := h3 (i / 2) (by omega)
 have e : BB ^ (i / 2) = 256 ^ i := by rw [Ak]; congr 1; omega
 refine ⟨?_, fun j => ?_, fun j hj => ?_, fun h6 => ?_⟩
 · have hv := kL (n := L) (f := f) (j := i / 2) (v := f (i / 2) + bs[i]) hL
   rw [xC bs i hi, ← e, ← h1]
   rw [Nat.add_mul] at hv
   omega
 · by_cases hj : j = i / 2
   · subst hj; rw [eU, h5]; simp only [BB]; omega
   · rw [upd_ne _ _ hj]; exact h2 j
 · rw [upd_ne _ _ (by omega)]; exact h3 j (by omega)
 · rw [show (i + 1) / 2 = i / 2 by omega, eU, h5]; omega
theorem YC {bs : List Nat} {L : Nat} {f : Nat → Nat} (h : Gw bs L bs.length f) : fV L f = bW bs ∧ ∀ j, f j < BB := by
 have h1 := h.1
 rw [List.take_length] at h1
 exact ⟨h1, h.2.1⟩
theorem ZV {bs : List Nat} {L i : Nat} {f : Nat → Nat} (h : Gw bs L i f) (b : Nat) (hb : b < 256) : f (i / 2) + b * 256 < 131072 := by
 have := h.2.1 (i / 2)
 simp only [BB] at this
 omega
theorem v8r (a : Nat) : ((a : Int) % 256) = ((a % 256 : Nat) : Int) := by omega
theorem ZT (a : Nat) (h : a < 65536) : (IntKind.u64.wrap ((a : Int) / 256) % 256) = ((a / 256 : Nat) : Int) := by rw [IntKind.wrap_u64]; omega
theorem vi0 (i : Nat) : Value.int .i64 ((i : Int) + 1) = Value.int .i64 ((i + 1 : Nat) : Int) := congrArg (Value.int .i64) (by omega)
theorem tH (L i : Nat) (hi : i < L) : ((L : Int) - intOf (.int .i64 ((i : Int) + 1))).toNat < ((L : Int) - intOf (.int .i64 (i : Int))).toNat := by
 show ((L : Int) - ((i : Int) + 1)).toNat < ((L : Int) - (i : Int)).toNat
 omega
end
end Go.Proofs.YtehfkbaendajbaaGreatDoor
