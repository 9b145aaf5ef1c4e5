/- Helpers: closed facts on the types of the translation. -/
import Derived.Test.YtpihffpdkfkkhaaVL
import Derived.Test.YtpihffpdkfkkhaaProg
namespace Go.Proofs.Ytpihffpdkfkkhaa
set_option linter.all false
open Go
theorem tyz_of {P : Program} {t : TypeId} {z : Value} {k b : Nat} (h : (P.info? t).map (fun i => (i.zero, i.size, i.bytes)) = some (some z, k, b)) : TyZ P t z k b := by
  cases hi : P.info? t with
  | none => simp [hi] at h
  | some i => simp [hi] at h; exact ⟨i, hi, h.1, h.2.1, h.2.2⟩
theorem sz_of {P : Program} {t : TypeId} {k : Nat} (h : (P.info? t).map (·.size) = some k) : Sz P t k := by
  cases hi : P.info? t with
  | none => simp [hi] at h
  | some i => simp [hi] at h; exact ⟨i, hi, h⟩
theorem mixed : Try.prog.follows .mixedOrders = true := by kernel_rfl
theorem sz3 : Sz Try.prog 3 1 := sz_of (by kernel_rfl)
theorem tyZ3 : TyZ Try.prog 3 (.int .i64 0) 1 8 := tyz_of (by kernel_rfl)
theorem tyS3 : TyS Try.prog 3 := ⟨⟨_, Try.underlying3, rfl⟩, sz3⟩
theorem sz5 : Sz Try.prog 5 1 := sz_of (by kernel_rfl)
theorem tyZ5 : TyZ Try.prog 5 (.int .u8 0) 1 1 := tyz_of (by kernel_rfl)
theorem tyS5 : TyS Try.prog 5 := ⟨⟨_, Try.underlying5, rfl⟩, sz5⟩
theorem sz9 : Sz Try.prog 9 1 := sz_of (by kernel_rfl)
theorem tyZ9 : TyZ Try.prog 9 (.string ByteArray.empty) 1 16 := tyz_of (by kernel_rfl)
theorem tyS9 : TyS Try.prog 9 := ⟨⟨_, Try.underlying9, rfl⟩, sz9⟩
theorem sz22 : Sz Try.prog 22 1 := sz_of (by kernel_rfl)
theorem tyZ22 : TyZ Try.prog 22 (.slice none 0 0) 1 24 := tyz_of (by kernel_rfl)
theorem tyS22 : TyS Try.prog 22 := ⟨⟨_, Try.underlying22, rfl⟩, sz22⟩
theorem sz24 : Sz Try.prog 24 1 := sz_of (by kernel_rfl)
theorem tyZ24 : TyZ Try.prog 24 (.int .i64 0) 1 8 := tyz_of (by kernel_rfl)
theorem tyS24 : TyS Try.prog 24 := ⟨⟨_, Try.underlying24, rfl⟩, sz24⟩
theorem sz39 : Sz Try.prog 39 16 := sz_of (by kernel_rfl)
theorem tyZ39 : TyZ Try.prog 39 (.agg #[.int .u8 0, .int .u8 0, .int .u8 0, .int .u8 0, .int .u8 0, .int .u8 0, .int .u8 0, .int .u8 0, .int .u8 0, .int .u8 0, .int .u8 0, .int .u8 0, .int .u8 0, .int .u8 0, .int .u8 0, .int .u8 0]) 16 16 := tyz_of (by kernel_rfl)
theorem tyA39 : TyA Try.prog 39 16 := ⟨⟨_, Try.underlying39, rfl⟩, sz39⟩
theorem sz40 : Sz Try.prog 40 1 := sz_of (by kernel_rfl)
theorem tyS40 : TyS Try.prog 40 := ⟨⟨_, Try.underlying40, rfl⟩, sz40⟩
theorem sz42 : Sz Try.prog 42 2 := sz_of (by kernel_rfl)
theorem tyZ42 : TyZ Try.prog 42 (.agg #[.int .u64 0, .int .u64 0]) 2 16 := tyz_of (by kernel_rfl)
theorem tyA42 : TyA Try.prog 42 2 := ⟨⟨_, Try.underlying42, rfl⟩, sz42⟩
theorem sz54 : Sz Try.prog 54 2 := sz_of (by kernel_rfl)
theorem tyZ54 : TyZ Try.prog 54 (.agg #[.int .u64 0, .int .u64 0]) 2 16 := tyz_of (by kernel_rfl)
theorem tyA54 : TyA Try.prog 54 2 := ⟨⟨_, Try.underlying54, rfl⟩, sz54⟩
theorem cal6 : Callable Try.prog 6 := ⟨_, Try.func6, by kernel_rfl, rfl⟩
theorem cal7 : Callable Try.prog 7 := ⟨_, Try.func7, by kernel_rfl, rfl⟩
theorem cal8 : Callable Try.prog 8 := ⟨_, Try.func8, by kernel_rfl, rfl⟩
theorem cal9 : Callable Try.prog 9 := ⟨_, Try.func9, by kernel_rfl, rfl⟩
theorem cal10 : Callable Try.prog 10 := ⟨_, Try.func10, by kernel_rfl, rfl⟩
theorem cal11 : Callable Try.prog 11 := ⟨_, Try.func11, by kernel_rfl, rfl⟩
theorem cal12 : Callable Try.prog 12 := ⟨_, Try.func12, by kernel_rfl, rfl⟩
theorem cal13 : Callable Try.prog 13 := ⟨_, Try.func13, by kernel_rfl, rfl⟩
theorem cal14 : Callable Try.prog 14 := ⟨_, Try.func14, by kernel_rfl, rfl⟩
theorem cal15 : Callable Try.prog 15 := ⟨_, Try.func15, by kernel_rfl, rfl⟩
theorem cal16 : Callable Try.prog 16 := ⟨_, Try.func16, by kernel_rfl, rfl⟩
theorem cal17 : Callable Try.prog 17 := ⟨_, Try.func17, by kernel_rfl, rfl⟩
theorem cal18 : Callable Try.prog 18 := ⟨_, Try.func18, by kernel_rfl, rfl⟩
theorem cal19 : Callable Try.prog 19 := ⟨_, Try.func19, by kernel_rfl, rfl⟩
theorem cal20 : Callable Try.prog 20 := ⟨_, Try.func20, by kernel_rfl, rfl⟩
theorem cal21 : Callable Try.prog 21 := ⟨_, Try.func21, by kernel_rfl, rfl⟩
theorem cal22 : Callable Try.prog 22 := ⟨_, Try.func22, by kernel_rfl, rfl⟩
theorem cal23 : Callable Try.prog 23 := ⟨_, Try.func23, by kernel_rfl, rfl⟩
theorem cal24 : Callable Try.prog 24 := ⟨_, Try.func24, by kernel_rfl, rfl⟩
theorem cal25 : Callable Try.prog 25 := ⟨_, Try.func25, by kernel_rfl, rfl⟩
end Go.Proofs.Ytpihffpdkfkkhaa
