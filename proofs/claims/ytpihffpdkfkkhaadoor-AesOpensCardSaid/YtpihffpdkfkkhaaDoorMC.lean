/- What the functions of package aes and of its reference that turn a block compute, in plain Lean. -/
import Derived.Test.YtpihffpdkfkkhaaDoorMA
namespace Go.Proofs.YtpihffpdkfkkhaaDoor
set_option linter.all false
open Go
def lowsT : List (BitVec 8) := [99#8, 124#8, 119#8, 123#8, 242#8, 107#8, 111#8, 197#8, 48#8, 1#8, 103#8, 43#8, 254#8, 215#8, 171#8, 118#8, 202#8, 130#8, 201#8, 125#8, 250#8, 89#8, 71#8, 240#8, 173#8, 212#8, 162#8, 175#8, 156#8, 164#8, 114#8, 192#8, 183#8, 253#8, 147#8, 38#8, 54#8, 63#8, 247#8, 204#8, 52#8, 165#8, 229#8, 241#8, 113#8, 216#8, 49#8, 21#8, 4#8, 199#8, 35#8, 195#8, 24#8, 150#8, 5#8, 154#8, 7#8, 18#8, 128#8, 226#8, 235#8, 39#8, 178#8, 117#8, 9#8, 131#8, 44#8, 26#8, 27#8, 110#8, 90#8, 160#8, 82#8, 59#8, 214#8, 179#8, 41#8, 227#8, 47#8, 132#8, 83#8, 209#8, 0#8, 237#8, 32#8, 252#8, 177#8, 91#8, 106#8, 203#8, 190#8, 57#8, 74#8, 76#8, 88#8, 207#8, 208#8, 239#8, 170#8, 251#8, 67#8, 77#8, 51#8, 133#8, 69#8, 249#8, 2#8, 127#8, 80#8, 60#8, 159#8, 168#8, 81#8, 163#8, 64#8, 143#8, 146#8, 157#8, 56#8, 245#8, 188#8, 182#8, 218#8, 33#8, 16#8, 255#8, 243#8, 210#8]
def highsT : List (BitVec 8) := [205#8, 12#8, 19#8, 236#8, 95#8, 151#8, 68#8, 23#8, 196#8, 167#8, 126#8, 61#8, 100#8, 93#8, 25#8, 115#8, 96#8, 129#8, 79#8, 220#8, 34#8, 42#8, 144#8, 136#8, 70#8, 238#8, 184#8, 20#8, 222#8, 94#8, 11#8, 219#8, 224#8, 50#8, 58#8, 10#8, 73#8, 6#8, 36#8, 92#8, 194#8, 211#8, 172#8, 98#8, 145#8, 149#8, 228#8, 121#8, 231#8, 200#8, 55#8, 109#8, 141#8, 213#8, 78#8, 169#8, 108#8, 86#8, 244#8, 234#8, 101#8, 122#8, 174#8, 8#8, 186#8, 120#8, 37#8, 46#8, 28#8, 166#8, 180#8, 198#8, 232#8, 221#8, 116#8, 31#8, 75#8, 189#8, 139#8, 138#8, 112#8, 62#8, 181#8, 102#8, 72#8, 3#8, 246#8, 14#8, 97#8, 53#8, 87#8, 185#8, 134#8, 193#8, 29#8, 158#8, 225#8, 248#8, 152#8, 17#8, 105#8, 217#8, 142#8, 148#8, 155#8, 30#8, 135#8, 233#8, 206#8, 85#8, 40#8, 223#8, 140#8, 161#8, 137#8, 13#8, 191#8, 230#8, 66#8, 104#8, 65#8, 153#8, 45#8, 15#8, 176#8, 84#8, 187#8, 22#8]
def boxT (x : BitVec 8) : BitVec 8 := if x.toNat < 128 then lowsT.getD x.toNat 0#8 else highsT.getD (x - 128#8).toNat 0#8
/-- the tables, in memory -/
structure Tab (w : World) : Prop where
  lo : ∀ j, j < 128 → w.cell? ⟨0, j, none⟩ = some (U8 (lowsT.getD j 0#8))
  hi : ∀ j, j < 128 → w.cell? ⟨1, j, none⟩ = some (U8 (highsT.getD j 0#8))
  live : 2 ≤ w.heap.size
theorem Tab.at {w0 w : World} {S : Nat → Prop} {l : List Asn} (h : Tab w0) (hM : Mem S w0 w l) (h0 : S 0) (h1 : S 1) : Tab w :=
  ⟨fun j hj => (World.cell?_of_block (w := w0) (hM.old 0 h0)).trans (h.lo j hj), fun j hj => (World.cell?_of_block (w := w0) (hM.old 1 h1)).trans (h.hi j hj), Nat.le_trans h.live hM.size⟩
def dbl (x : BitVec 8) : BitVec 8 := if 128 ≤ x.toNat then (x <<< 1) ^^^ 27#8 else x <<< 1
def addL (s k : List (BitVec 8)) : Nat → List (BitVec 8)
  | 0 => s
  | i + 1 => (addL s k i).set i ((addL s k i).getD i 0#8 ^^^ k.getD i 0#8)
theorem length_addL (s k : List (BitVec 8)) (i : Nat) : (addL s k i).length = s.length := by
  induction i with
  | zero => rfl
  | succ i ih => simp [addL, ih]
def subL (f : BitVec 8 → BitVec 8) (s : List (BitVec 8)) : Nat → List (BitVec 8)
  | 0 => s
  | i + 1 => (subL f s i).set i (f ((subL f s i).getD i 0#8))
theorem length_subL (f : BitVec 8 → BitVec 8) (s : List (BitVec 8)) (i : Nat) : (subL f s i).length = s.length := by
  induction i with
  | zero => rfl
  | succ i ih => simp [subL, ih]
def rowsL (s : List (BitVec 8)) : Nat → List (BitVec 8)
  | 0 => s
  | i + 1 => (rowsL s i).set i (s.getD ((i + 4 * (i % 4)) % 16) 0#8)
theorem length_rowsL (s : List (BitVec 8)) (i : Nat) : (rowsL s i).length = s.length := by
  induction i with
  | zero => rfl
  | succ i ih => simp [rowsL, ih]
def mixI (s : List (BitVec 8)) (c : Nat) (t : BitVec 8) : Nat → List (BitVec 8)
  | 0 => s
  | i + 1 => (mixI s c t i).set (4 * c + i) ((mixI s c t i).getD (4 * c + i) 0#8 ^^^ (t ^^^ dbl ((mixI s c t i).getD (4 * c + i) 0#8 ^^^ (mixI s c t i).getD (4 * c + (i + 1)) 0#8)))
theorem length_mixI (s : List (BitVec 8)) (c : Nat) (t : BitVec 8) (i : Nat) : (mixI s c t i).length = s.length := by
  induction i with
  | zero => rfl
  | succ i ih => simp [mixI, ih]
def mixT (s : List (BitVec 8)) (c : Nat) : BitVec 8 := s.getD (4 * c) 0#8 ^^^ s.getD (4 * c + 1) 0#8 ^^^ s.getD (4 * c + 2) 0#8 ^^^ s.getD (4 * c + 3) 0#8
def mixC (s : List (BitVec 8)) (c : Nat) : List (BitVec 8) :=
  (mixI s c (mixT s c) 3).set (4 * c + 3) ((mixI s c (mixT s c) 3).getD (4 * c + 3) 0#8 ^^^ (mixT s c ^^^ dbl ((mixI s c (mixT s c) 3).getD (4 * c + 3) 0#8 ^^^ s.getD (4 * c) 0#8)))
def mixL (s : List (BitVec 8)) : Nat → List (BitVec 8)
  | 0 => s
  | c + 1 => mixC (mixL s c) c
theorem length_mixC (s : List (BitVec 8)) (c : Nat) : (mixC s c).length = s.length := by simp [mixC, length_mixI]
theorem length_mixL (s : List (BitVec 8)) (c : Nat) : (mixL s c).length = s.length := by
  induction c with
  | zero => rfl
  | succ c ih => simp [mixL, length_mixC, ih]
/-- the reference's product of two bytes -/
def pr1 (a : BitVec 8) : BitVec 8 := if a &&& 128#8 ≠ 0#8 then (a <<< 1) ^^^ 27#8 else a <<< 1
def prS (a b : BitVec 8) : Nat → BitVec 8 × BitVec 8 × BitVec 8
  | 0 => (a, b, 0#8)
  | i + 1 => (pr1 (prS a b i).1, (prS a b i).2.1 >>> 1, if (prS a b i).2.1 &&& 1#8 = 1#8 then (prS a b i).2.2 ^^^ (prS a b i).1 else (prS a b i).2.2)
def prL (a b : BitVec 8) : BitVec 8 := (prS a b 8).2.2
def pw (x : BitVec 8) : Nat → BitVec 8
  | 0 => 1#8
  | i + 1 => prL (pw x i) x
def sbx (y : BitVec 8) : BitVec 8 :=
  y ^^^ ((y <<< 1) ||| (y >>> 7)) ^^^ ((y <<< 2) ||| (y >>> 6)) ^^^ ((y <<< 3) ||| (y >>> 5)) ^^^ ((y <<< 4) ||| (y >>> 4)) ^^^ 99#8
def subst1 (x : BitVec 8) : BitVec 8 := sbx (pw x 254)
def keyOf (flat : List (BitVec 8)) (n k : Nat) : List (BitVec 8) := (((flat.drop (1 * 16)).take ((n - 1) * 16)).drop (k * 16)).take 16
def encT (s : List (BitVec 8)) : List (BitVec 8) := rowsL (subL boxT s 16) 16
def encS (flat : List (BitVec 8)) (n : Nat) (s : List (BitVec 8)) : Nat → List (BitVec 8)
  | 0 => addL s ((flat.drop (0 * 16)).take 16) 16
  | k + 1 => addL (if k + 2 < n then mixL (encT (encS flat n s k)) 4 else encT (encS flat n s k)) (keyOf flat n k) 16
theorem length_encT (s : List (BitVec 8)) : (encT s).length = s.length := by simp [encT, length_rowsL, length_subL]
theorem length_encS (flat : List (BitVec 8)) (n : Nat) (s : List (BitVec 8)) (k : Nat) : (encS flat n s k).length = s.length := by
  induction k with
  | zero => simp [encS, length_addL]
  | succ k ih =>
    rw [encS, length_addL]
    split
    · rw [length_mixL, length_encT, ih]
    · rw [length_encT, ih]
theorem Rd.partK8 {w : World} {v : Value} {n k : Nat} {xs : List (BitVec 8)} (h : Rd w v n k (xs.map U8)) {lo hi : Nat} (h1 : lo ≤ hi) (h2 : hi ≤ n) : Rd w (vsub v lo hi k) (hi - lo) k (((xs.drop (lo * k)).take ((hi - lo) * k)).map U8) := by
  have := h.part h1 h2
  simpa [List.map_take, List.map_drop] using this
/-! ### the key, made long -/
def sub2 (f : BitVec 8 → BitVec 8) (s : List (BitVec 8)) : Nat → List (BitVec 8)
  | 0 => s
  | i + 1 => (sub2 f s i).set i (f (s.getD i 0#8))
theorem length_sub2 (f : BitVec 8 → BitVec 8) (s : List (BitVec 8)) (i : Nat) : (sub2 f s i).length = s.length := by
  induction i with
  | zero => rfl
  | succ i ih => simp [sub2, ih]
def cut16 (v : Value) (n : Nat) : Nat → Value
  | 0 => v
  | j + 1 => vsub (cut16 v n j) 16 (n - 16 * j) 1
theorem cut16Rd {w : World} {v : Value} {n : Nat} {l : List (BitVec 8)} (h : Rd w v n 1 (l.map U8)) : ∀ j, 16 * j ≤ n → Rd w (cut16 v n j) (n - 16 * j) 1 ((l.drop (16 * j)).map U8)
  | 0, _ => by simpa [cut16] using h
  | j + 1, hj => by
    have hl : l.length = n := by have := h.len; simpa using this
    have h1 := (cut16Rd h j (by omega)).part8 (lo := 16) (hi := n - 16 * j) (by omega) (Nat.le_refl _)
    have e1 : n - 16 * j - 16 = n - 16 * (j + 1) := by omega
    have e2 : ((l.drop (16 * j)).drop 16).take (n - 16 * (j + 1)) = l.drop (16 * (j + 1)) := by
      rw [List.drop_drop, List.take_of_length_le (by simp; omega)]; rfl
    rw [e1, e2] at h1
    exact h1
theorem take_next (F : List (BitVec 8)) (m : Nat) : F.take (16 * m) ++ (((F.drop (16 * m)).drop 0).take (16 - 0) |>.drop 0).take 16 = F.take (16 * (m + 1)) := by
  have e : (((F.drop (16 * m)).drop 0).take (16 - 0) |>.drop 0).take 16 = (F.drop (16 * m)).take 16 := by
    simp [List.take_take]
  rw [e, show 16 * (m + 1) = 16 * m + 16 by omega, List.take_add]
def kLast (f : List (BitVec 8)) (i : Nat) : List (BitVec 8) := over (List.replicate 4 0#8) 0 (((f.drop (4 * i - 4)).take (f.length - (4 * i - 4))).take (min (f.length - (4 * i - 4)) 4))
def kWord (f : List (BitVec 8)) (i nk : Nat) (r : BitVec 8) : List (BitVec 8) :=
  if i % nk = 0 then [boxT ((kLast f i).getD 1 0#8) ^^^ r, boxT ((kLast f i).getD 2 0#8), boxT ((kLast f i).getD 3 0#8), boxT ((kLast f i).getD 0 0#8)]
  else if nk = 8 ∧ i % 8 = 4 then sub2 boxT (kLast f i) 4 else kLast f i
def kApp (f : List (BitVec 8)) (i nk : Nat) (w : List (BitVec 8)) : Nat → List (BitVec 8)
  | 0 => f
  | j + 1 => kApp f i nk w j ++ [(kApp f i nk w j).getD (4 * (i - nk) + j) 0#8 ^^^ w.getD j 0#8]
def kS (key : List (BitVec 8)) (nk : Nat) : Nat → List (BitVec 8) × BitVec 8
  | 0 => (key, 1#8)
  | t + 1 => (kApp (kS key nk t).1 (nk + t) nk (kWord (kS key nk t).1 (nk + t) nk (kS key nk t).2) 4, if (nk + t) % nk = 0 then dbl (kS key nk t).2 else (kS key nk t).2)
theorem length_kLast (f : List (BitVec 8)) (i : Nat) : (kLast f i).length = 4 := by simp [kLast, over]; omega
theorem length_kWord (f : List (BitVec 8)) (i nk : Nat) (r : BitVec 8) : (kWord f i nk r).length = 4 := by
  unfold kWord
  split
  · rfl
  · split
    · rw [length_sub2, length_kLast]
    · exact length_kLast f i
theorem length_kApp (f : List (BitVec 8)) (i nk : Nat) (w : List (BitVec 8)) (j : Nat) : (kApp f i nk w j).length = f.length + j := by
  induction j with
  | zero => rfl
  | succ j ih => simp [kApp, ih]; omega
theorem length_kS (key : List (BitVec 8)) (nk : Nat) (t : Nat) : (kS key nk t).1.length = key.length + 4 * t := by
  induction t with
  | zero => rfl
  | succ t ih => rw [kS, length_kApp, ih]; omega
/-! ### the reference's table -/
def boxR : Nat → List (BitVec 8)
  | 0 => []
  | k + 1 => boxR k ++ [subst1 (BitVec.ofNat 8 k)]
theorem length_boxR (k : Nat) : (boxR k).length = k := by
  induction k with
  | zero => rfl
  | succ k ih => simp [boxR, ih]
def eachR (s bx : List (BitVec 8)) : Nat → List (BitVec 8)
  | 0 => []
  | k + 1 => eachR s bx k ++ [bx.getD (s.getD k 0#8).toNat 0#8]
theorem length_eachR (s bx : List (BitVec 8)) (k : Nat) : (eachR s bx k).length = k := by
  induction k with
  | zero => rfl
  | succ k ih => simp [eachR, ih]
/-! ### the reference's rounds -/
def addR (s : List (BitVec 8)) (ws : List (List (BitVec 8))) (r : Nat) : Nat → List (BitVec 8)
  | 0 => s
  | i + 1 => (addR s ws r i).set i ((addR s ws r i).getD i 0#8 ^^^ (ws.getD (4 * r + i / 4) []).getD (i % 4) 0#8)
theorem length_addR (s : List (BitVec 8)) (ws : List (List (BitVec 8))) (r i : Nat) : (addR s ws r i).length = s.length := by
  induction i with
  | zero => rfl
  | succ i ih => simp [addR, ih]
def rowR (x : List (BitVec 8)) : Nat → List (BitVec 8)
  | 0 => List.replicate 16 0#8
  | i + 1 => (rowR x i).set i (x.getD ((i + 4 * (i % 4)) % 16) 0#8)
theorem length_rowR (x : List (BitVec 8)) (i : Nat) : (rowR x i).length = 16 := by
  induction i with
  | zero => rfl
  | succ i ih => simp [rowR, ih]
def mixR (y : List (BitVec 8)) : Nat → List (BitVec 8)
  | 0 => List.replicate 16 0#8
  | i + 1 => (mixR y i).set i (prL 2#8 (y.getD i 0#8) ^^^ prL 3#8 (y.getD (i / 4 * 4 + (i % 4 + 1) % 4) 0#8) ^^^ y.getD (i / 4 * 4 + (i % 4 + 2) % 4) 0#8 ^^^ y.getD (i / 4 * 4 + (i % 4 + 3) % 4) 0#8)
theorem length_mixR (x : List (BitVec 8)) (i : Nat) : (mixR x i).length = 16 := by
  induction i with
  | zero => rfl
  | succ i ih => simp [mixR, ih]
def rndR (s bx : List (BitVec 8)) (last : Bool) : List (BitVec 8) := if last then rowR (eachR s bx 16) 16 else mixR (rowR (eachR s bx 16) 16) 16
theorem length_rndR (s bx : List (BitVec 8)) (last : Bool) : (rndR s bx last).length = 16 := by
  cases last
  · exact length_mixR _ _
  · exact length_rowR _ _
def encQ (s : List (BitVec 8)) (ws : List (List (BitVec 8))) (bx : List (BitVec 8)) (R : Nat) : Nat → List (BitVec 8)
  | 0 => addR s ws 0 16
  | r + 1 => addR (rndR (encQ s ws bx R r) bx (decide (R ≤ r + 1))) ws (r + 1) 16
theorem length_encQ (s : List (BitVec 8)) (hs : s.length = 16) (ws : List (List (BitVec 8))) (bx : List (BitVec 8)) (R r : Nat) : (encQ s ws bx R r).length = 16 := by
  cases r with
  | zero => rw [encQ, length_addR, hs]
  | succ r => rw [encQ, length_addR, length_rndR]
end Go.Proofs.YtpihffpdkfkkhaaDoor
