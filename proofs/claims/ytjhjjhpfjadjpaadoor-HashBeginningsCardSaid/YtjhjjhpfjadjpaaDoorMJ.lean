/- The kinds of hashes: constants; a hash in memory; the package's tables; a slice cut with three bounds. -/
import Derived.Test.YtjhjjhpfjadjpaaDoorMI
import Derived.Test.YtjhjjhpfjadjpaaDoorVU
namespace Go.Proofs.YtjhjjhpfjadjpaaDoor
set_option linter.all false
open Go
def k256 : List (BitVec 32) := [1116352408#32, 1899447441#32, 3049323471#32, 3921009573#32, 961987163#32, 1508970993#32, 2453635748#32, 2870763221#32, 3624381080#32, 310598401#32, 607225278#32, 1426881987#32, 1925078388#32, 2162078206#32, 2614888103#32, 3248222580#32, 3835390401#32, 4022224774#32, 264347078#32, 604807628#32, 770255983#32, 1249150122#32, 1555081692#32, 1996064986#32, 2554220882#32, 2821834349#32, 2952996808#32, 3210313671#32, 3336571891#32, 3584528711#32, 113926993#32, 338241895#32, 666307205#32, 773529912#32, 1294757372#32, 1396182291#32, 1695183700#32, 1986661051#32, 2177026350#32, 2456956037#32, 2730485921#32, 2820302411#32, 3259730800#32, 3345764771#32, 3516065817#32, 3600352804#32, 4094571909#32, 275423344#32, 430227734#32, 506948616#32, 659060556#32, 883997877#32, 958139571#32, 1322822218#32, 1537002063#32, 1747873779#32, 1955562222#32, 2024104815#32, 2227730452#32, 2361852424#32, 2428436474#32, 2756734187#32, 3204031479#32, 3329325298#32]
def k512 : List (BitVec 64) := [4794697086780616226#64, 8158064640168781261#64, 13096744586834688815#64, 16840607885511220156#64, 4131703408338449720#64, 6480981068601479193#64, 10538285296894168987#64, 12329834152419229976#64, 15566598209576043074#64, 1334009975649890238#64, 2608012711638119052#64, 6128411473006802146#64, 8268148722764581231#64, 9286055187155687089#64, 11230858885718282805#64, 13951009754708518548#64, 16472876342353939154#64, 17275323862435702243#64, 1135362057144423861#64, 2597628984639134821#64, 3308224258029322869#64, 5365058923640841347#64, 6679025012923562964#64, 8573033837759648693#64, 10970295158949994411#64, 12119686244451234320#64, 12683024718118986047#64, 13788192230050041572#64, 14330467153632333762#64, 15395433587784984357#64, 489312712824947311#64, 1452737877330783856#64, 2861767655752347644#64, 3322285676063803686#64, 5560940570517711597#64, 5996557281743188959#64, 7280758554555802590#64, 8532644243296465576#64, 9350256976987008742#64, 10552545826968843579#64, 11727347734174303076#64, 12113106623233404929#64, 14000437183269869457#64, 14369950271660146224#64, 15101387698204529176#64, 15463397548674623760#64, 17586052441742319658#64, 1182934255886127544#64, 1847814050463011016#64, 2177327727835720531#64, 2830643537854262169#64, 3796741975233480872#64, 4115178125766777443#64, 5681478168544905931#64, 6601373596472566643#64, 7507060721942968483#64, 8399075790359081724#64, 8693463985226723168#64, 9568029438360202098#64, 10144078919501101548#64, 10430055236837252648#64, 11840083180663258601#64, 13761210420658862357#64, 14299343276471374635#64, 14566680578165727644#64, 15097957966210449927#64, 16922976911328602910#64, 17689382322260857208#64, 500013540394364858#64, 748580250866718886#64, 1242879168328830382#64, 1977374033974150939#64, 2944078676154940804#64, 3659926193048069267#64, 4368137639120453308#64, 4836135668995329356#64, 5532061633213252278#64, 6448918945643986474#64, 6902733635092675308#64, 7801388544844847127#64]
def h256 : List (BitVec 32) := [1779033703#32, 3144134277#32, 1013904242#32, 2773480762#32, 1359893119#32, 2600822924#32, 528734635#32, 1541459225#32]
def h384 : List (BitVec 64) := [14680500436340154072#64, 7105036623409894663#64, 10473403895298186519#64, 1526699215303891257#64, 7436329637833083697#64, 10282925794625328401#64, 15784041429090275239#64, 5167115440072839076#64]
def h512 : List (BitVec 64) := [7640891576956012808#64, 13503953896175478587#64, 4354685564936845355#64, 11912009170470909681#64, 5840696475078001361#64, 11170449401992604703#64, 2270897969802886507#64, 6620516959819538809#64]
def F256 : Fam 32 := ⟨k256, (2, 13, 22), (6, 11, 25), (7, 18, 3), (17, 19, 10)⟩
def F512 : Fam 64 := ⟨k512, (28, 34, 39), (14, 18, 41), (1, 8, 7), (19, 61, 6)⟩
/-! ### the package's tables, in memory -/
def LaidG (w : World) (g : Nat) (cs : Array Value) : Prop := ∃ (T : TypeId) (fr : Nat × Nat), w.heap[g]? = some (.cells cs T fr)
structure LaidH (w : World) : Prop where
  g0 : LaidG w 0 #[vI (32 : Nat), vI (48 : Nat), vI (64 : Nat)]
  g1 : LaidG w 1 (c32 h256)
  g2 : LaidG w 2 (c64 h384)
  g3 : LaidG w 3 (c64 h512)
theorem LaidG.lt {w : World} {g : Nat} {cs : Array Value} (h : LaidG w g cs) : g < w.heap.size := by
  obtain ⟨T, fr, h⟩ := h
  exact (Array.getElem?_eq_some_iff.1 h).1
theorem LaidG.at {w0 w : World} {S : Nat → Prop} {l : List Asn} {g : Nat} {cs : Array Value} (h : LaidG w0 g cs) (hM : Mem S w0 w l) (hS : S g) : LaidG w g cs := by
  obtain ⟨T, fr, h⟩ := h
  exact ⟨T, fr, (hM.old g hS).trans h⟩
/-- the tables, at a later time, when nothing old has changed -/
theorem LaidH.at {w0 w : World} {l : List Asn} (h : LaidH w0) (hM : Mem (All w0) w0 w l) : LaidH w :=
  ⟨h.g0.at hM ⟨h.g0.lt, id⟩, h.g1.at hM ⟨h.g1.lt, id⟩, h.g2.at hM ⟨h.g2.lt, id⟩, h.g3.at hM ⟨h.g3.lt, id⟩⟩
/-- what held at the start holds, when nothing that it needs has changed -/
theorem Asn.stays {X : Asn} {S : Nat → Prop} {w0 w : World} {l : List Asn} (h : X.holds w0) (hS : ∀ b, X.foot b → S b) (M : Mem S w0 w l) : X.holds w := X.keep w0 w (fun b hb => M.old b (hS b hb)) h
/-! ### a family, made -/
theorem Mem.toFam {n : Nat} {U : BitVec n → Value} {T e : TypeId} {fp : Nat} {kv : Value} {F : Fam n} {S : Nat → Prop} {w0 w : World} {lf : List Asn}
    (M : Mem S w0 w (blk fp #[kv, vI F.big0.1, vI F.big0.2.1, vI F.big0.2.2, vI F.big1.1, vI F.big1.2.1, vI F.big1.2.2, vI F.small0.1, vI F.small0.2.1, vI F.small0.2.2, vI F.small1.1, vI F.small1.2.1, vI F.small1.2.2] T :: own kv e 1 F.k.length (F.k.map U) :: lf)) :
    Mem S w0 w (famA U T fp kv F :: lf) := by
  have M1 := Mem.pack (lm := [blk fp #[kv, vI F.big0.1, vI F.big0.2.1, vI F.big0.2.2, vI F.big1.1, vI F.big1.2.1, vI F.big1.2.2, vI F.small0.1, vI F.small0.2.1, vI F.small0.2.2, vI F.small1.1, vI F.small1.2.1, vI F.small1.2.2] T, own kv e 1 F.k.length (F.k.map U)]) (lf := lf) M
  obtain ⟨fr, hb, _⟩ := M.holds _ List.mem_cons_self
  have ho : (own kv e 1 F.k.length (F.k.map U)).holds w := M.holds _ (List.mem_cons_of_mem _ List.mem_cons_self)
  refine M1.replace (i := 0) rfl rfl rfl rfl (Nat.le_refl _) (fun _ _ _ => rfl) ⟨⟨fr, hb⟩, own_rd ho⟩ (fun b hb => .inl ?_)
  rcases hb with rfl | hb
  · exact ⟨_, List.mem_cons_self, rfl⟩
  · exact ⟨_, List.mem_cons_of_mem _ List.mem_cons_self, hb⟩
/-! ### a slice cut with three bounds -/
def vcut (v : Value) (n : Nat) : Value := match v with | .slice a _ _ => .slice a n n | _ => v
section
variable {P : Program} {n : Nat} {S : Nat → Prop} {w0 : World} {E : Env} {l : List Asn} {Q : Exit → Act → World → Prop} {ops : Array Oper} {rest : List Oper} {ty t e : TypeId} {pos : String} {af : Array Edge} {d i m k : Nat} {x y z : Operand} {v : Value} {xs : List Value}
theorem own_vcut {w : World} (h : (own v e 1 m xs).holds w) (hk : k ≤ m) : (own (vcut v k) e 1 k (xs.take k)).holds w ∧ ∀ b, vfoot (vcut v k) b → vfoot v b := by
  obtain ⟨hl, hor⟩ := h
  rcases hor with ⟨rfl, rfl⟩ | ⟨cs, fr, hv, hc, hf, hb, hz, hx⟩
  · obtain rfl : k = 0 := by omega
    exact ⟨⟨by simp, .inl ⟨rfl, rfl⟩⟩, fun b hb => hb⟩
  · generalize vblk v = b0 at *
    generalize voff v = o0 at *
    generalize vcap v = c0 at *
    subst hv
    refine ⟨⟨by simp [hl]; omega, .inr ⟨cs, fr, rfl, Nat.le_refl _, ?_, hb, hz, fun j u hj => ?_⟩⟩, fun b hb => hb⟩
    · show o0 + k * 1 ≤ cs.size; omega
    · rw [List.getElem?_take] at hj
      split at hj
      · exact hx j u hj
      · cases hj
theorem st_cut3 (hl : l[i]? = some (own v e 1 m xs)) (ht : P.underlying t = some (.slice e)) (hi' : Sz P e 1) (hx : Env.ev E x = some v) (hy : Env.ev E y = some (vI (k : Nat))) (hz : Env.ev E z = some (vI (k : Nat))) (hk : k ≤ m) (hd : d < n)
    (h : St n S w0 (wpList P ops Q rest) ((d, vcut v k) :: E) (l.set i (own (vcut v k) e 1 k (xs.take k)))) :
    St n S w0 (wpList P ops Q (⟨some d, .slice t x none (some y) (some z), ty, pos, af, none⟩ :: rest)) E l := fun tt w hA hM => by
  have ho : (own v e 1 m xs).holds w := hM.at hl
  obtain ⟨h1, h2⟩ := own_vcut ho hk
  obtain ⟨it, hi', hs⟩ := hi'
  have hb : ∀ c, k ≤ c → (Instr.sliceBounds true m c none (some (vI (k : Nat))) (some (vI (k : Nat)))).run P w = .ok (0, k, k) w := fun c hc => by
    have e1 : (0 : Int) ≤ (k : Int) ∧ (k : Int) ≤ (c : Int) := by omega
    have e2 : (0 : Int) ≤ (k : Int) ∧ (k : Int) ≤ (k : Int) := by omega
    simp [Instr.sliceBounds, Instr.sliceBound, asIntOf, hc]
  have hr : (execOp (Act.eval ⟨tt, []⟩) ⟨some d, .slice t x none (some y) (some z), ty, pos, af, none⟩).run P w = .ok (.value (vcut v k)) w := by
    have key : ∀ (a : Option Addr) (c : Nat), v = .slice a m c → k ≤ c → (a.map (·.add 0) = a) → (execOp (Act.eval ⟨tt, []⟩) ⟨some d, .slice t x none (some y) (some z), ty, pos, af, none⟩).run P w = .ok (.value (vcut v k)) w := by
      intro a c hv hc ha
      rw [hv] at hx ⊢
      simp only [execOp, Instr.sliceAt, Sem.run_bind, run_underlying ht, Result.andThen_ok, hA.ev hx, hA.ev hy, hA.ev hz, Instr.slice, Option.map_none, Option.map_some, hb c hc, run_sizeOf hi', hs, Sem.run_pure, vcut, Nat.zero_mul, Nat.sub_zero, ha, ite_self]
    rcases ho.2 with ⟨h3, h4⟩ | ⟨cs, fr, h3, h4, _⟩
    · exact key none 0 (by rw [h3, h4]) (by omega) rfl
    · exact key _ _ h3 (by omega) (by simp [Addr.add_lit])
  exact wpList_run rfl hr (h _ _ (hA.put hd _) (hM.replace hl rfl rfl rfl (Nat.le_refl _) (fun _ _ _ => rfl) h1 (fun b hb => .inl (h2 b hb))))
end
end Go.Proofs.YtjhjjhpfjadjpaaDoor
