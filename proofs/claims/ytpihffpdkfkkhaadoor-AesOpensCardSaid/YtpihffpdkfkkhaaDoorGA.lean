/- The field of 2^128, in plain Lean: its laws. A word's bit k is the coefficient of the k-th power. -/
import Derived.KernelRfl
namespace Go.Proofs.YtpihffpdkfkkhaaDoor
set_option linter.all false
abbrev P128 := BitVec 128
def nx (p : P128) : P128 := (p <<< 1) ^^^ (if p.getLsbD 127 then 135#128 else 0#128)
def nxs (p : P128) : Nat → P128
  | 0 => p
  | k + 1 => nx (nxs p k)
def msum (a b : P128) : Nat → P128
  | 0 => 0#128
  | k + 1 => msum a b k ^^^ (if a.getLsbD k then nxs b k else 0#128)
def pmul (a b : P128) : P128 := msum a b 128
theorem xor4 (a b c d : P128) : (a ^^^ b) ^^^ (c ^^^ d) = (a ^^^ c) ^^^ (b ^^^ d) := by
  rw [BitVec.xor_assoc, BitVec.xor_assoc, ← BitVec.xor_assoc b, ← BitVec.xor_assoc c, BitVec.xor_comm b c]
theorem nx_xor (a b : P128) : nx (a ^^^ b) = nx a ^^^ nx b := by
  unfold nx
  rw [BitVec.shiftLeft_xor_distrib, xor4]
  congr 1
  rw [BitVec.getLsbD_xor]
  cases a.getLsbD 127 <;> cases b.getLsbD 127 <;> simp
theorem nx_zero : nx 0#128 = 0#128 := by simp [nx]
theorem nxs_xor (a b : P128) (k : Nat) : nxs (a ^^^ b) k = nxs a k ^^^ nxs b k := by
  induction k with
  | zero => rfl
  | succ k ih => simp only [nxs, ih, nx_xor]
theorem nxs_zero (k : Nat) : nxs 0#128 k = 0#128 := by
  induction k with
  | zero => rfl
  | succ k ih => simp only [nxs, ih, nx_zero]
theorem nx_if (c : Bool) (x : P128) : nx (if c then x else 0#128) = if c then nx x else 0#128 := by cases c <;> simp [nx_zero]
theorem nxs_nx (b : P128) (k : Nat) : nxs (nx b) k = nx (nxs b k) := by
  induction k with
  | zero => rfl
  | succ k ih => simp only [nxs, ih]
theorem msum_xor (a b c : P128) (k : Nat) : msum a (b ^^^ c) k = msum a b k ^^^ msum a c k := by
  induction k with
  | zero => simp [msum]
  | succ k ih =>
    simp only [msum, ih, nxs_xor]
    rw [xor4]
    congr 1
    cases a.getLsbD k <;> simp
theorem msum_zero (a : P128) (k : Nat) : msum a 0#128 k = 0#128 := by
  induction k with
  | zero => rfl
  | succ k ih => simp [msum, ih, nxs_zero]
theorem msum_nx (a b : P128) (k : Nat) : msum a (nx b) k = nx (msum a b k) := by
  induction k with
  | zero => simp [msum, nx_zero]
  | succ k ih => simp only [msum, ih, nx_xor, nx_if, nxs_nx]
theorem msum_nxs (a b : P128) (k j : Nat) : msum a (nxs b j) k = nxs (msum a b k) j := by
  induction j with
  | zero => rfl
  | succ j ih => simp only [nxs, msum_nx, ih]
theorem msum_if (a : P128) (c : Bool) (x : P128) (k : Nat) : msum a (if c then x else 0#128) k = if c then msum a x k else 0#128 := by cases c <;> simp [msum_zero]
theorem msum_swap (a b c : P128) (k m : Nat) : msum a (msum b c m) k = msum b (msum a c k) m := by
  induction m with
  | zero => simp [msum, msum_zero]
  | succ m ih => simp only [msum, msum_xor, ih, msum_if, msum_nxs]
/-- below the top the powers are single bits -/
theorem nxs_one (k : Nat) (hk : k < 128) : nxs 1#128 k = BitVec.twoPow 128 k := by
  induction k with
  | zero => rfl
  | succ k ih =>
    rw [nxs, ih (by omega), nx]
    have h1 : (BitVec.twoPow 128 k).getLsbD 127 = false := by
      rw [BitVec.getLsbD_twoPow]; simp; omega
    rw [h1]
    apply BitVec.eq_of_getLsbD_eq
    intro i hi
    simp only [Bool.false_eq_true, if_false, BitVec.xor_zero, BitVec.getLsbD_shiftLeft, BitVec.getLsbD_twoPow]
    by_cases h : i = k + 1
    · subst h; simp; omega
    · have h2 : ¬ (k + 1 = i) := fun e => h e.symm
      by_cases h3 : i < 1
      · simp [h3, h2]
      · have h4 : ¬ (k = i - 1) := by omega
        simp [h3, h2, h4]
theorem msum_one (a : P128) (k : Nat) (hk : k ≤ 128) (i : Nat) : (msum a 1#128 k).getLsbD i = (decide (i < k) && a.getLsbD i) := by
  induction k with
  | zero => simp [msum]
  | succ k ih =>
    rw [msum, BitVec.getLsbD_xor, ih (by omega), nxs_one k (by omega)]
    by_cases h : i = k
    · subst h
      cases h1 : a.getLsbD i
      · simp
      · simp [BitVec.getLsbD_twoPow]; omega
    · have h2 : ¬ (k = i) := fun e => h e.symm
      have h3 : decide (i < k + 1) = decide (i < k) := by
        apply decide_eq_decide.2; omega
      rw [h3]
      cases a.getLsbD k <;> simp [BitVec.getLsbD_twoPow, h2]
theorem pmul_one (a : P128) : pmul a 1#128 = a := by
  apply BitVec.eq_of_getLsbD_eq
  intro i hi
  unfold pmul
  rw [msum_one a 128 (by omega)]
  simp [hi]
theorem pmul_comm (a b : P128) : pmul a b = pmul b a := by
  have h := msum_swap a b 1#128 128 128
  have h1 : msum b 1#128 128 = b := pmul_one b
  have h2 : msum a 1#128 128 = a := pmul_one a
  rw [h1, h2] at h
  exact h
theorem pmul_left (a b c : P128) : pmul a (pmul b c) = pmul b (pmul a c) := msum_swap a b c 128 128
theorem pmul_assoc (a b c : P128) : pmul (pmul a b) c = pmul a (pmul b c) := by
  rw [pmul_comm (pmul a b) c, pmul_left c a b, pmul_comm c b]
theorem pmul_xor (a b c : P128) : pmul a (b ^^^ c) = pmul a b ^^^ pmul a c := msum_xor a b c 128
theorem pmul_zero (a : P128) : pmul a 0#128 = 0#128 := msum_zero a 128
theorem pmul_nx (a b : P128) : pmul a (nx b) = nx (pmul a b) := msum_nx a b 128
/-! ### squares -/
def psq (a : P128) : P128 := pmul a a
theorem psq_xor (a b : P128) : psq (a ^^^ b) = psq a ^^^ psq b := by
  unfold psq
  rw [pmul_xor, pmul_comm (a ^^^ b) a, pmul_comm (a ^^^ b) b, pmul_xor, pmul_xor, pmul_comm b a]
  rw [BitVec.xor_assoc, ← BitVec.xor_assoc (pmul a b), BitVec.xor_self, BitVec.zero_xor]
theorem psq_mul (a b : P128) : psq (pmul a b) = pmul (psq a) (psq b) := by
  unfold psq
  rw [pmul_assoc, pmul_left b a b, ← pmul_assoc]
def psqs (a : P128) : Nat → P128
  | 0 => a
  | k + 1 => psq (psqs a k)
theorem psqs_xor (a b : P128) (k : Nat) : psqs (a ^^^ b) k = psqs a k ^^^ psqs b k := by
  induction k with
  | zero => rfl
  | succ k ih => simp only [psqs, ih, psq_xor]
theorem psqs_mul (a b : P128) (k : Nat) : psqs (pmul a b) k = pmul (psqs a k) (psqs b k) := by
  induction k with
  | zero => rfl
  | succ k ih => simp only [psqs, ih, psq_mul]
/-- an additive map that fixes the powers fixes all -/
theorem additive_of {T T' : P128 → P128} (hx : ∀ a b, T (a ^^^ b) = T a ^^^ T b) (hx' : ∀ a b, T' (a ^^^ b) = T' a ^^^ T' b) (h : ∀ k, k < 128 → T (nxs 1#128 k) = T' (nxs 1#128 k)) (a : P128) : T a = T' a := by
  have z : T 0#128 = 0#128 := by
    have := hx 0#128 0#128
    rw [BitVec.xor_self] at this
    rw [BitVec.xor_self] at this
    exact this
  have z' : T' 0#128 = 0#128 := by
    have := hx' 0#128 0#128
    rw [BitVec.xor_self] at this
    rw [BitVec.xor_self] at this
    exact this
  have : ∀ k, k ≤ 128 → T (msum a 1#128 k) = T' (msum a 1#128 k) := by
    intro k
    induction k with
    | zero => intro _; rw [msum, z, z']
    | succ k ih =>
      intro hk
      rw [msum, hx, hx', ih (by omega)]
      cases a.getLsbD k
      · simp only [Bool.false_eq_true, if_false]; rw [z, z']
      · simp only [if_true]; rw [h k (by omega)]
  have h2 := this 128 (Nat.le_refl _)
  have h3 : msum a 1#128 128 = a := pmul_one a
  rwa [h3] at h2
/-! ### the same, reckoned with whole numbers -/
def nxN (c : Nat) : Nat := if Nat.ble 170141183460469231731687303715884105728 c then Nat.xor (Nat.mul 2 c) 340282366920938463463374607431768211591 else Nat.mul 2 c
theorem nxN_eq (p : P128) : (nx p).toNat = nxN p.toNat := by
  have hlt := p.isLt
  unfold nx nxN
  cases hb : p.getLsbD 127
  · have h1 : p.toNat < 170141183460469231731687303715884105728 := by
      have h2 : p.msb = false := by rw [BitVec.msb_eq_getLsbD_last]; exact hb
      have := BitVec.toNat_lt_of_msb_false h2
      simpa using this
    have h3 : Nat.ble 170141183460469231731687303715884105728 p.toNat = false := by
      cases hq : Nat.ble 170141183460469231731687303715884105728 p.toNat with
      | false => rfl
      | true => have := Nat.le_of_ble_eq_true hq; omega
    rw [h3]
    simp only [Bool.false_eq_true, if_false, BitVec.xor_zero, BitVec.toNat_shiftLeft, Nat.shiftLeft_eq]
    show _ = 2 * p.toNat
    omega
  · have h2 : p.msb = true := by rw [BitVec.msb_eq_getLsbD_last]; exact hb
    have h1 := BitVec.le_toNat_of_msb_true h2
    have h3 : Nat.ble 170141183460469231731687303715884105728 p.toNat = true := Nat.ble_eq_true_of_le (by simpa using h1)
    rw [h3]
    simp only [if_true, BitVec.toNat_xor, BitVec.toNat_shiftLeft, Nat.shiftLeft_eq, BitVec.toNat_ofNat]
    show (p.toNat * 2 ^ 1 % 2 ^ 128) ^^^ (135 % 2 ^ 128) = (2 * p.toNat) ^^^ 340282366920938463463374607431768211591
    have e1 : 2 * p.toNat = 2 ^ 128 * 1 + (p.toNat * 2 ^ 1 % 2 ^ 128) := by omega
    have e2 : (340282366920938463463374607431768211591 : Nat) = 2 ^ 128 * 1 + 135 := by decide
    rw [e2, e1]
    apply Nat.eq_of_testBit_eq
    intro i
    have hm : p.toNat * 2 ^ 1 % 2 ^ 128 < 2 ^ 128 := Nat.mod_lt _ (by decide)
    simp only [Nat.testBit_xor]
    rw [Nat.testBit_two_pow_mul_add _ hm, Nat.testBit_two_pow_mul_add _ (by decide : 135 < 2 ^ 128)]
    by_cases hi : i < 128
    · simp [hi]
    · simp only [hi, if_false, Bool.xor_self]
      rw [Nat.testBit_lt_two_pow (Nat.lt_of_lt_of_le hm (Nat.pow_le_pow_right (by decide) (by omega)))]
      rw [Nat.testBit_lt_two_pow (Nat.lt_of_lt_of_le (by decide : 135 % 2 ^ 128 < 2 ^ 128) (Nat.pow_le_pow_right (by decide) (by omega)))]
      rfl
def goN : Nat → Nat → Nat → Nat → Nat
  | 0, _, _, acc => acc
  | n + 1, a, cur, acc => goN n (Nat.div a 2) (nxN cur) (bif Nat.beq (Nat.mod a 2) 1 then Nat.xor acc cur else acc)
theorem goN_eq (a b : P128) : ∀ n k, n + k = 128 → goN n (a.toNat / 2 ^ k) (nxs b k).toNat (msum a b k).toNat = (pmul a b).toNat
  | 0, k, h => by
    have : k = 128 := by omega
    subst this; rfl
  | n + 1, k, h => by
    have ih := goN_eq a b n (k + 1) (by omega)
    rw [goN, ← ih]
    have e1 : Nat.div (a.toNat / 2 ^ k) 2 = a.toNat / 2 ^ (k + 1) := by
      show a.toNat / 2 ^ k / 2 = _
      rw [Nat.div_div_eq_div_mul, Nat.pow_succ]
    have e2 : (bif Nat.beq (Nat.mod (a.toNat / 2 ^ k) 2) 1 then Nat.xor (msum a b k).toNat (nxs b k).toNat else (msum a b k).toNat) = (msum a b (k + 1)).toNat := by
      rw [msum, BitVec.toNat_xor]
      have e3 : a.getLsbD k = Nat.beq (Nat.mod (a.toNat / 2 ^ k) 2) 1 := by
        rw [← BitVec.testBit_toNat, Nat.testBit_eq_decide_div_mod_eq]
        show _ = Nat.beq (a.toNat / 2 ^ k % 2) 1
        cases hq : Nat.beq (a.toNat / 2 ^ k % 2) 1 with
        | true => simpa using Nat.eq_of_beq_eq_true hq
        | false => simpa using Nat.ne_of_beq_eq_false hq
      rw [e3]
      cases Nat.beq (Nat.mod (a.toNat / 2 ^ k) 2) 1 with
      | true => rfl
      | false => simp
    rw [e1, e2, ← nxN_eq]; rfl
def mulN (a b : Nat) : Nat := goN 128 a b 0
theorem mulN_eq (a b : P128) : (pmul a b).toNat = mulN a.toNat b.toNat := by
  have := goN_eq a b 128 0 rfl
  rw [← this]; simp [mulN, nxs, msum]
def sqsN (a : Nat) : Nat → Nat
  | 0 => a
  | k + 1 => (fun x => mulN x x) (sqsN a k)
theorem sqsN_eq (a : P128) (k : Nat) : (psqs a k).toNat = sqsN a.toNat k := by
  induction k with
  | zero => rfl
  | succ k ih => rw [psqs, psq, mulN_eq, ih]; rfl
set_option maxRecDepth 100000 in
theorem chk1 : Nat.beq (sqsN 2 128) 2 = true := by kernel_rfl
theorem psqs_all (a : P128) : psqs a 128 = a := by
  have h2 : psqs 2#128 128 = 2#128 := by
    apply BitVec.eq_of_toNat_eq
    have e : (2#128 : P128).toNat = 2 := rfl
    have h := Nat.eq_of_beq_eq_true chk1
    rw [sqsN_eq, e, h]
  have hn : ∀ c, nx c = pmul c 2#128 := fun c => by
    have h := pmul_nx c 1#128
    rw [pmul_one] at h
    have e : nx 1#128 = 2#128 := by decide
    rw [← h, e]
  refine additive_of (T := fun a => psqs a 128) (T' := fun a => a) (fun a b => psqs_xor a b 128) (fun _ _ => rfl) (fun k _ => ?_) a
  induction k with
  | zero =>
    show psqs 1#128 128 = 1#128
    have : ∀ k, psqs 1#128 k = 1#128 := by
      intro k
      induction k with
      | zero => rfl
      | succ k ih => rw [psqs, ih, psq, pmul_one]
    exact this 128
  | succ k ih =>
    have ih := ih (by omega)
    show psqs (nxs 1#128 (k + 1)) 128 = nxs 1#128 (k + 1)
    rw [nxs, hn, psqs_mul, h2]
    exact congrArg (fun x => pmul x 2#128) ih
/-! ### a square that is its root is none or one -/
def psiC : List Nat := [54969562866131847669016652494142573320, 305526867633558886955404559995676324868, 305526867633558886955404559995676324870, 104469799312523126935073530960423461388, 305526867633558886955404559995676324866, 56734434906695435454005472259553578602, 104469799312523126935073530960423461380, 271830150077582418345900040240152313368, 305526867633558886955404559995676324882, 104470118804432205535668098632526617412, 56734434906695435454005472259553578570, 227145695117876428321601179286510436182, 104469799312523126935073530960423461444, 305967500991204419130524647600360013666, 271830150077582418345900040240152313496, 227728627380917811012951187023350445606, 305526867633558886955404559995676325138, 56815181714465587187729576693626853178, 104470118804432205535668098632526616900, 2537993204061707162883588357039153916, 56734434906695435454005472259553577546, 3012428575888700110705650160495551628, 227145695117876428321601179286510434134, 275671395948664093117384310641479295528, 104469799312523126935073530960423465540, 271915852323952067842399232303023203416, 305967500991204419130524647600360005474, 102998777379450204286412735627287799860, 271830150077582418345900040240152297112, 272209106874770544727132909282711537316, 227728627380917811012951187023350412838, 135325830696997074197434372310186257282, 305526867633558886955404559995676390674, 57232084741685004684866676497372669754, 56815181714465587187729576693626984250, 135411474552265958872087683058005180738, 104470118804432205535668098632526879044, 275757512462385460142162890854388625828, 2537993204061707162883588357039678204, 274842411402277094064293402576501149528, 56734434906695435454005472259554626122, 175382474467339210118195525752143821788, 3012428575888700110705650160497648780, 5261797816253387317062014170447638976, 227145695117876428321601179286514628438, 272210066766835802062006483639670336468, 275671395948664093117384310641470906920, 225136856268418471551472419225175749014, 104469799312523126935073530960440242756, 102164174349821125137969924442995585924, 271915852323952067842399232302989648984, 226936647763116174786496543602468507498, 305967500991204419130524647600427114338, 305532029585887981283514747020026657774, 102998777379450204286412735627422017588, 133211003395652039953403666705387164366, 271830150077582418345900040239883861656, 102148097239065330920971689869502701364, 272209106874770544727132909283248408228, 173139448164521758332819425568250980204, 227728627380917811012951187022276671014, 305961988162602755697098987302884752222, 135325830696997074197434372312333740930, 175397880387343143921058595535091746080, 305526867633558886955404559991381423378, 329634352286836299080082914081100, 57232084741685004684866676505962604346, 172705286512742171128536335012890908524, 56815181714465587187729576710806853434, 303614986222712004812458293485509624930, 135411474552265958872087683023645442370, 170536380025231687221712635462198253856, 104470118804432205535668098701246355780, 225051247907070202050589524227723711914, 275757512462385460142162890991827579300, 308170559265311564786252692292247708062, 2537993204061707162883588082161771260, 102169133813289299704984590013427707636, 274842411402277094064293402026745335640, 303326766809063102477989677003176958226, 56734434906695435454005473359066253898, 172841837191359616877872241477191677152, 175382474467339210118195523553120566236, 54888141419452711199816878900948880442, 3012428575888700110705654558544159884, 307799342647640341558117533281787318686, 5261797816253387317062022966540661184, 273119276677551945356669168913118222868, 227145695117876428321601196878700672854, 272311600527812781647585363233504111460, 272210066766835802062006518824042425300, 5181299727675599870287693023180209980, 275671395948664093117384240272726729256, 305525142620375929691910208574098026146, 225136856268418471551472278487687393686, 307772801086609188417528170053220769746, 104469799312523126935073249485463532100, 54596111748351997025280216654447342278, 102164174349821125137970487392949007236, 308164931596625094656266467235253809106, 271915852323952067842398106403082806360, 227647953955287367714133036452945544742, 226936647763116174786494291802654822250, 308170555145571807541189819739699809694, 305967500991204419130520144000799743842, 133105130754254600986622393405343152142, 305532029585887981283523754219281398766, 172410759080424577518324870893406614048, 102998777379450204286394721228912535604, 54969320214588899006126198736319185926, 133211003395652039953439695502406128334, 227375442280390979429973553919662004774, 271830150077582418345827982645845933720, 4955917326648230773508684280683823104, 102148097239065330921115805057578557236, 172885700256406002458384310923462859152, 272209106874770544726844678907096696484, 56538291399058816093646072645906817530, 173139448164521758332242964815947556716, 55418003596362017635628740176384579466, 227728627380917811014104108526883517990, 0, 305961988162602755699404830312098446174, 178356100567250831900639352525185366892, 135325830696997074202046058330761128834, 189481146061086134017106552491789565356, 175397880387343143911835223498236970272, 75361565302940573017734093940626417402]
def psiN : List Nat → Nat → Nat → Nat
  | [], _, acc => acc
  | c :: r, v, acc => psiN r (Nat.div v 2) (bif Nat.beq (Nat.mod v 2) 1 then Nat.xor acc c else acc)
def psiS (l : List Nat) (v : P128) : Nat → P128
  | 0 => 0#128
  | k + 1 => psiS l v k ^^^ (if v.getLsbD k then BitVec.ofNat 128 (l.getD k 0) else 0#128)
theorem psiS_xor (l : List Nat) (a b : P128) (k : Nat) : psiS l (a ^^^ b) k = psiS l a k ^^^ psiS l b k := by
  induction k with
  | zero => simp [psiS]
  | succ k ih =>
    simp only [psiS, ih, BitVec.getLsbD_xor]
    rw [xor4]
    congr 1
    cases a.getLsbD k <;> cases b.getLsbD k <;> simp
theorem psiS_zero (l : List Nat) (k : Nat) : psiS l 0#128 k = 0#128 := by
  induction k with
  | zero => rfl
  | succ k ih => simp [psiS, ih]
theorem psiN_eq (l : List Nat) (hl : ∀ k, l.getD k 0 < 2 ^ 128) (v : P128) : ∀ (r : List Nat) (k : Nat), r = l.drop k → psiN r (v.toNat / 2 ^ k) (psiS l v k).toNat = (psiS l v (k + r.length)).toNat
  | [], k, h => rfl
  | c :: r, k, h => by
    have hc : l.getD k 0 = c := by
      have : l[k]? = some c := by
        have := congrArg (·[0]?) h
        simpa using this.symm
      simp [List.getD_eq_getElem?_getD, this]
    have hr : r = l.drop (k + 1) := by
      have := congrArg List.tail h
      simpa using this
    have ih := psiN_eq l hl v r (k + 1) hr
    rw [psiN]
    have e1 : Nat.div (v.toNat / 2 ^ k) 2 = v.toNat / 2 ^ (k + 1) := by
      show v.toNat / 2 ^ k / 2 = _
      rw [Nat.div_div_eq_div_mul, Nat.pow_succ]
    have e2 : (bif Nat.beq (Nat.mod (v.toNat / 2 ^ k) 2) 1 then Nat.xor (psiS l v k).toNat c else (psiS l v k).toNat) = (psiS l v (k + 1)).toNat := by
      rw [psiS, BitVec.toNat_xor, hc]
      have e3 : v.getLsbD k = Nat.beq (Nat.mod (v.toNat / 2 ^ k) 2) 1 := by
        rw [← BitVec.testBit_toNat, Nat.testBit_eq_decide_div_mod_eq]
        show _ = Nat.beq (v.toNat / 2 ^ k % 2) 1
        cases hq : Nat.beq (v.toNat / 2 ^ k % 2) 1 with
        | true => simpa using Nat.eq_of_beq_eq_true hq
        | false => simpa using Nat.ne_of_beq_eq_false hq
      rw [e3]
      have hcl := hl k
      rw [hc] at hcl
      cases Nat.beq (Nat.mod (v.toNat / 2 ^ k) 2) 1 with
      | true =>
        simp only [cond_true, if_true, BitVec.toNat_ofNat]
        rw [Nat.mod_eq_of_lt hcl]; rfl
      | false => simp
    rw [e1, e2, ih]
    congr 2
    simp only [List.length_cons]; omega
def chk2B (k : Nat) : Bool := Nat.beq (psiN psiC (Nat.xor (mulN (Nat.pow 2 k) (Nat.pow 2 k)) (Nat.pow 2 k)) 0) (bif Nat.beq k 0 then 0 else Nat.pow 2 k)
def allB (f : Nat → Bool) : Nat → Bool
  | 0 => true
  | k + 1 => f k && allB f k
theorem allB_spec {f : Nat → Bool} : ∀ {n}, allB f n = true → ∀ k, k < n → f k = true
  | n + 1, h, k, hk => by
    simp only [allB, Bool.and_eq_true] at h
    by_cases e : k = n
    · subst e; exact h.1
    · exact allB_spec h.2 k (by omega)
set_option maxRecDepth 100000 in
theorem chk2 : allB chk2B 128 = true := by kernel_rfl
theorem chk3 : (psiC.all fun c => Nat.blt c 340282366920938463463374607431768211456) = true := by kernel_rfl
theorem psiC_lt (k : Nat) : psiC.getD k 0 < 2 ^ 128 := by
  by_cases h : k < psiC.length
  · have h1 := List.all_eq_true.1 chk3 psiC[k] (List.getElem_mem h)
    have h2 : psiC[k] < 340282366920938463463374607431768211456 := Nat.le_of_ble_eq_true h1
    simpa [List.getD_eq_getElem?_getD, h] using h2
  · simp [List.getD_eq_getElem?_getD, h]
theorem length_psiC : psiC.length = 128 := by kernel_rfl
def psiP (v : P128) : P128 := psiS psiC v 128
theorem psiP_eq (v : P128) : (psiP v).toNat = psiN psiC v.toNat 0 := by
  have := psiN_eq psiC psiC_lt v psiC 0 rfl
  rw [length_psiC] at this
  simp only [Nat.pow_zero, Nat.div_one, Nat.zero_add] at this
  exact this.symm
theorem psi_sq (a : P128) : psiP (psq a ^^^ a) = a ^^^ (a &&& 1#128) := by
  refine additive_of (T := fun a => psiP (psq a ^^^ a)) (T' := fun a => a ^^^ (a &&& 1#128)) (fun a b => ?_) (fun a b => ?_) (fun k hk => ?_) a
  · show psiP (psq (a ^^^ b) ^^^ (a ^^^ b)) = _
    rw [psq_xor, xor4]
    exact psiS_xor _ _ _ _
  · show (a ^^^ b) ^^^ ((a ^^^ b) &&& 1#128) = _
    rw [xor4]
    congr 1
    apply BitVec.eq_of_getLsbD_eq
    intro i hi
    simp only [BitVec.getLsbD_and, BitVec.getLsbD_xor]
    cases a.getLsbD i <;> cases b.getLsbD i <;> cases (1#128).getLsbD i <;> rfl
  · have h := allB_spec chk2 k hk
    have h := Nat.eq_of_beq_eq_true h
    rw [nxs_one k hk]
    apply BitVec.eq_of_toNat_eq
    show (psiP (psq (BitVec.twoPow 128 k) ^^^ BitVec.twoPow 128 k)).toNat = _
    have ht : (BitVec.twoPow 128 k).toNat = 2 ^ k := by
      rw [BitVec.toNat_twoPow, Nat.mod_eq_of_lt (Nat.pow_lt_pow_right (by decide) hk)]
    rw [psiP_eq, BitVec.toNat_xor, psq, mulN_eq, ht]
    refine h.trans ?_
    cases k with
    | zero => decide
    | succ k =>
      have e1 : BitVec.twoPow 128 (k + 1) &&& 1#128 = 0#128 := by
        apply BitVec.eq_of_getLsbD_eq
        intro i hi
        rw [BitVec.getLsbD_and, BitVec.getLsbD_twoPow]
        by_cases h1 : k + 1 = i
        · subst h1; simp
        · simp [h1]
      rw [e1, BitVec.xor_zero, ht]; rfl
theorem idem (e : P128) (h : psq e = e) : e = 0#128 ∨ e = 1#128 := by
  have h1 := psi_sq e
  rw [h, BitVec.xor_self] at h1
  have h2 : psiP 0#128 = 0#128 := psiS_zero _ _
  rw [h2] at h1
  have h3 : e = e &&& 1#128 := by
    have := congrArg (· ^^^ (e &&& 1#128)) h1
    simp only [BitVec.zero_xor] at this
    rw [BitVec.xor_assoc, BitVec.xor_self, BitVec.xor_zero] at this
    exact this.symm
  cases hb : e.getLsbD 0
  · left
    rw [h3]
    apply BitVec.eq_of_getLsbD_eq
    intro i hi
    rw [BitVec.getLsbD_and]
    by_cases h0 : i = 0
    · subst h0; rw [hb]; rfl
    · simp [h0]
  · right
    rw [h3]
    apply BitVec.eq_of_getLsbD_eq
    intro i hi
    rw [BitVec.getLsbD_and]
    by_cases h0 : i = 0
    · subst h0; rw [hb]; rfl
    · simp [h0]
def pinv (x : P128) : Nat → P128
  | 0 => 1#128
  | k + 1 => pmul (psq (pinv x k)) x
theorem pinv_mul (x : P128) (k : Nat) : pmul (pinv x k) x = psqs x k := by
  induction k with
  | zero => rw [pinv, pmul_comm, pmul_one]; rfl
  | succ k ih =>
    rw [pinv, psqs, ← ih, psq_mul, pmul_assoc]; rfl
/-- NO TWO THAT MAKE NONE. -/
theorem pmul_eq_zero {x y : P128} (h : pmul x y = 0#128) : x = 0#128 ∨ y = 0#128 := by
  have he : pmul (pinv x 128) x = x := by rw [pinv_mul, psqs_all]
  have hid : psq (pinv x 128) = pinv x 128 := by
    show pmul (pinv x 128) (pinv x 128) = _
    have e : pinv x 128 = pmul (psq (pinv x 127)) x := rfl
    conv => lhs; rw [e]
    rw [pmul_assoc, pmul_comm x, ← e, he, ← e]
  rcases idem _ hid with h0 | h1
  · left; rw [← he, h0, pmul_comm, pmul_zero]
  · right
    have e : pinv x 128 = pmul (psq (pinv x 127)) x := rfl
    rw [h1] at e
    have := congrArg (fun z => pmul z y) e
    replace this : pmul 1#128 y = pmul (pmul (psq (pinv x 127)) x) y := this
    rw [pmul_assoc, h, pmul_zero, pmul_comm, pmul_one] at this
    exact this
end Go.Proofs.YtpihffpdkfkkhaaDoor
