/-
  The types and functions of this seat's program, as the small logic of memory takes them.
-/
import Derived.Test.YtjfbdffcgapdlaaEf
import Derived.Test.YtjfbdffcgapdlaaProg
namespace Go.Proofs
open Go.Sl
instance : TPlain Try.prog 1 := ⟨Try.isAgg1⟩
instance : TSize Try.prog 1 1 := ⟨Try.sizeOf1⟩
instance : TZero Try.prog 1 [.nilFunc] := ⟨fun w => ⟨_, Try.zeroValue1 w, rfl⟩⟩
instance : TPlain Try.prog 2 := ⟨Try.isAgg2⟩
instance : TSize Try.prog 2 1 := ⟨Try.sizeOf2⟩
instance : TZero Try.prog 2 [.int .i64 0] := ⟨fun w => ⟨_, Try.zeroValue2 w, rfl⟩⟩
instance : TPlain Try.prog 3 := ⟨Try.isAgg3⟩
instance : TSize Try.prog 3 1 := ⟨Try.sizeOf3⟩
instance : TZero Try.prog 3 [.int .i64 0] := ⟨fun w => ⟨_, Try.zeroValue3 w, rfl⟩⟩
instance : TPlain Try.prog 4 := ⟨Try.isAgg4⟩
instance : TSize Try.prog 4 1 := ⟨Try.sizeOf4⟩
instance : TZero Try.prog 4 [.bool false] := ⟨fun w => ⟨_, Try.zeroValue4 w, rfl⟩⟩
instance : TPlain Try.prog 5 := ⟨Try.isAgg5⟩
instance : TSize Try.prog 5 1 := ⟨Try.sizeOf5⟩
instance : TZero Try.prog 5 [.int .u8 0] := ⟨fun w => ⟨_, Try.zeroValue5 w, rfl⟩⟩
instance : TPlain Try.prog 9 := ⟨Try.isAgg9⟩
instance : TSize Try.prog 9 1 := ⟨Try.sizeOf9⟩
instance : TString Try.prog 9 := ⟨Try.underlying9⟩
instance : TZero Try.prog 9 [.string ⟨#[]⟩] := ⟨fun w => ⟨_, Try.zeroValue9 w, rfl⟩⟩
instance : TPlain Try.prog 12 := ⟨Try.isAgg12⟩
instance : TSize Try.prog 12 1 := ⟨Try.sizeOf12⟩
instance : TZero Try.prog 12 [.int .u64 0] := ⟨fun w => ⟨_, Try.zeroValue12 w, rfl⟩⟩
instance : TAgg Try.prog 13 2 := ⟨Try.isAgg13, Try.sizeOf13⟩
instance : TSize Try.prog 13 2 := ⟨Try.sizeOf13⟩
instance : TZero Try.prog 13 [.string ⟨#[]⟩, .int .u64 0] := ⟨fun w => ⟨_, Try.zeroValue13 w, rfl⟩⟩
instance : TField Try.prog 13 0 0 := field_mk (n := 1) Try.runUnderlying13 rfl Try.sizeOf9 (by decide) rfl
instance : TField Try.prog 13 1 1 := field_mk (n := 1) Try.runUnderlying13 rfl Try.sizeOf12 (by decide) rfl
instance : TBuild Try.prog 13 [.string ⟨#[]⟩, .int .u64 0] [(0, 1), (1, 1)] := ⟨fun parts out w h => by simp [Instr.build, Try.zeroValue13, Try.runUnderlying13, Try.sizeOf12, Try.sizeOf9, Value.cells, h]⟩
instance : TPlain Try.prog 15 := ⟨Try.isAgg15⟩
instance : TSize Try.prog 15 1 := ⟨Try.sizeOf15⟩
instance : TZero Try.prog 15 [.pointer none] := ⟨fun w => ⟨_, Try.zeroValue15 w, rfl⟩⟩
instance : TPlain Try.prog 16 := ⟨Try.isAgg16⟩
instance : TSize Try.prog 16 1 := ⟨Try.sizeOf16⟩
instance : TZero Try.prog 16 [.pointer none] := ⟨fun w => ⟨_, Try.zeroValue16 w, rfl⟩⟩
instance : TPlain Try.prog 20 := ⟨Try.isAgg20⟩
instance : TSize Try.prog 20 1 := ⟨Try.sizeOf20⟩
instance : TZero Try.prog 20 [.nilIface] := ⟨fun w => ⟨_, Try.zeroValue20 w, rfl⟩⟩
instance : TPlain Try.prog 21 := ⟨Try.isAgg21⟩
instance : TSize Try.prog 21 1 := ⟨Try.sizeOf21⟩
instance : TZero Try.prog 21 [.int .i32 0] := ⟨fun w => ⟨_, Try.zeroValue21 w, rfl⟩⟩
instance : TPlain Try.prog 22 := ⟨Try.isAgg22⟩
instance : TSize Try.prog 22 1 := ⟨Try.sizeOf22⟩
instance : TSlice Try.prog 22 47 2 := ⟨Try.underlying22, Try.sizeOf47⟩
instance : TZero Try.prog 22 [.slice none 0 0] := ⟨fun w => ⟨_, Try.zeroValue22 w, rfl⟩⟩
instance : TPlain Try.prog 23 := ⟨Try.isAgg23⟩
instance : TSize Try.prog 23 1 := ⟨Try.sizeOf23⟩
instance : TSlice Try.prog 23 69 6 := ⟨Try.underlying23, Try.sizeOf69⟩
instance : TZero Try.prog 23 [.slice none 0 0] := ⟨fun w => ⟨_, Try.zeroValue23 w, rfl⟩⟩
instance : TAgg Try.prog 24 2 := ⟨Try.isAgg24, Try.sizeOf24⟩
instance : TSize Try.prog 24 2 := ⟨Try.sizeOf24⟩
instance : TZero Try.prog 24 [.slice none 0 0, .slice none 0 0] := ⟨fun w => ⟨_, Try.zeroValue24 w, rfl⟩⟩
instance : TField Try.prog 24 0 0 := field_mk (n := 1) Try.runUnderlying24 rfl Try.sizeOf22 (by decide) rfl
instance : TField Try.prog 24 1 1 := field_mk (n := 1) Try.runUnderlying24 rfl Try.sizeOf23 (by decide) rfl
instance : TBuild Try.prog 24 [.slice none 0 0, .slice none 0 0] [(0, 1), (1, 1)] := ⟨fun parts out w h => by simp [Instr.build, Try.zeroValue24, Try.runUnderlying24, Try.sizeOf22, Try.sizeOf23, Value.cells, h]⟩
instance : TAgg Try.prog 25 2 := ⟨Try.isAgg25, Try.sizeOf25⟩
instance : TSize Try.prog 25 2 := ⟨Try.sizeOf25⟩
instance : TZero Try.prog 25 [.slice none 0 0, .slice none 0 0] := ⟨fun w => ⟨_, Try.zeroValue25 w, rfl⟩⟩
instance : TField Try.prog 25 0 0 := field_mk (n := 1) Try.runUnderlying25 rfl Try.sizeOf22 (by decide) rfl
instance : TField Try.prog 25 1 1 := field_mk (n := 1) Try.runUnderlying25 rfl Try.sizeOf23 (by decide) rfl
instance : TBuild Try.prog 25 [.slice none 0 0, .slice none 0 0] [(0, 1), (1, 1)] := ⟨fun parts out w h => by simp [Instr.build, Try.zeroValue25, Try.runUnderlying25, Try.sizeOf22, Try.sizeOf23, Value.cells, h]⟩
instance : TAgg Try.prog 26 2 := ⟨Try.isAgg26, Try.sizeOf26⟩
instance : TSize Try.prog 26 2 := ⟨Try.sizeOf26⟩
instance : TZero Try.prog 26 [.int .i64 0, .int .i64 0] := ⟨fun w => ⟨_, Try.zeroValue26 w, rfl⟩⟩
instance : TEq2 Try.prog 26 := ⟨fun a b c d w => by
  show (Op.equalIn (9999 + 1) 26 (.agg #[.int .i64 a, .int .i64 b]) (.agg #[.int .i64 c, .int .i64 d])).run Try.prog w = _
  rw [Op.equalIn]
  have e3 : ∀ x y : Int, ∀ w, (Op.equalIn 9999 3 (.int .i64 x) (.int .i64 y)).run Try.prog w = .ok (x == y) w := fun x y w => run_equalIn_int w 9998 3 .i64 .i64 x y Try.underlying3
  simp [Try.runUnderlying26, Try.sizeOf3, part, Try.isAgg3, e3, List.range', Std.Legacy.Range.forIn_eq_forIn_range', Std.Legacy.Range.size]
  by_cases h1 : a = c <;> by_cases h2 : b = d <;> simp [h1, h2], by kernel_rfl⟩
instance : TBuild Try.prog 26 [.int .i64 0, .int .i64 0] [(0, 1), (1, 1)] := build_arr Try.zeroValue26 Try.runUnderlying26 Try.sizeOf3 rfl (by decide)
instance : TPlain Try.prog 27 := ⟨Try.isAgg27⟩
instance : TSize Try.prog 27 1 := ⟨Try.sizeOf27⟩
instance : TSlice Try.prog 27 3 1 := ⟨Try.underlying27, Try.sizeOf3⟩
instance : TZero Try.prog 27 [.slice none 0 0] := ⟨fun w => ⟨_, Try.zeroValue27 w, rfl⟩⟩
instance : TPlain Try.prog 28 := ⟨Try.isAgg28⟩
instance : TSize Try.prog 28 1 := ⟨Try.sizeOf28⟩
instance : TZero Try.prog 28 [.nilFunc] := ⟨fun w => ⟨_, Try.zeroValue28 w, rfl⟩⟩
instance : TPlain Try.prog 29 := ⟨Try.isAgg29⟩
instance : TSize Try.prog 29 1 := ⟨Try.sizeOf29⟩
instance : TZero Try.prog 29 [.nilFunc] := ⟨fun w => ⟨_, Try.zeroValue29 w, rfl⟩⟩
instance : TPlain Try.prog 30 := ⟨Try.isAgg30⟩
instance : TSize Try.prog 30 1 := ⟨Try.sizeOf30⟩
instance : TZero Try.prog 30 [.int .i64 0] := ⟨fun w => ⟨_, Try.zeroValue30 w, rfl⟩⟩
instance : TPlain Try.prog 32 := ⟨Try.isAgg32⟩
instance : TSize Try.prog 32 1 := ⟨Try.sizeOf32⟩
instance : TZero Try.prog 32 [.nilFunc] := ⟨fun w => ⟨_, Try.zeroValue32 w, rfl⟩⟩
instance : TAgg Try.prog 33 2 := ⟨Try.isAgg33, Try.sizeOf33⟩
instance : TSize Try.prog 33 2 := ⟨Try.sizeOf33⟩
instance : TZero Try.prog 33 [.slice none 0 0, .int .i64 0] := ⟨fun w => ⟨_, Try.zeroValue33 w, rfl⟩⟩
instance : TField Try.prog 33 0 0 := field_mk (n := 1) Try.runUnderlying33 rfl Try.sizeOf22 (by decide) rfl
instance : TField Try.prog 33 1 1 := field_mk (n := 1) Try.runUnderlying33 rfl Try.sizeOf30 (by decide) rfl
instance : TBuild Try.prog 33 [.slice none 0 0, .int .i64 0] [(0, 1), (1, 1)] := ⟨fun parts out w h => by simp [Instr.build, Try.zeroValue33, Try.runUnderlying33, Try.sizeOf22, Try.sizeOf30, Value.cells, h]⟩
instance : TAgg Try.prog 34 2 := ⟨Try.isAgg34, Try.sizeOf34⟩
instance : TSize Try.prog 34 2 := ⟨Try.sizeOf34⟩
instance : TZero Try.prog 34 [.slice none 0 0, .int .i64 0] := ⟨fun w => ⟨_, Try.zeroValue34 w, rfl⟩⟩
instance : TField Try.prog 34 0 0 := field_mk (n := 1) Try.runUnderlying34 rfl Try.sizeOf22 (by decide) rfl
instance : TField Try.prog 34 1 1 := field_mk (n := 1) Try.runUnderlying34 rfl Try.sizeOf30 (by decide) rfl
instance : TBuild Try.prog 34 [.slice none 0 0, .int .i64 0] [(0, 1), (1, 1)] := ⟨fun parts out w h => by simp [Instr.build, Try.zeroValue34, Try.runUnderlying34, Try.sizeOf22, Try.sizeOf30, Value.cells, h]⟩
instance : TPlain Try.prog 35 := ⟨Try.isAgg35⟩
instance : TSize Try.prog 35 1 := ⟨Try.sizeOf35⟩
instance : TZero Try.prog 35 [.nilFunc] := ⟨fun w => ⟨_, Try.zeroValue35 w, rfl⟩⟩
instance : TPlain Try.prog 37 := ⟨Try.isAgg37⟩
instance : TSize Try.prog 37 1 := ⟨Try.sizeOf37⟩
instance : TZero Try.prog 37 [.nilFunc] := ⟨fun w => ⟨_, Try.zeroValue37 w, rfl⟩⟩
instance : TAgg Try.prog 38 2 := ⟨Try.isAgg38, Try.sizeOf38⟩
instance : TSize Try.prog 38 2 := ⟨Try.sizeOf38⟩
instance : TZero Try.prog 38 [.slice none 0 0, .int .i64 0] := ⟨fun w => ⟨_, Try.zeroValue38 w, rfl⟩⟩
instance : TField Try.prog 38 0 0 := field_mk (n := 1) Try.runUnderlying38 rfl Try.sizeOf27 (by decide) rfl
instance : TField Try.prog 38 1 1 := field_mk (n := 1) Try.runUnderlying38 rfl Try.sizeOf30 (by decide) rfl
instance : TBuild Try.prog 38 [.slice none 0 0, .int .i64 0] [(0, 1), (1, 1)] := ⟨fun parts out w h => by simp [Instr.build, Try.zeroValue38, Try.runUnderlying38, Try.sizeOf27, Try.sizeOf30, Value.cells, h]⟩
instance : TAgg Try.prog 39 2 := ⟨Try.isAgg39, Try.sizeOf39⟩
instance : TSize Try.prog 39 2 := ⟨Try.sizeOf39⟩
instance : TZero Try.prog 39 [.slice none 0 0, .int .i64 0] := ⟨fun w => ⟨_, Try.zeroValue39 w, rfl⟩⟩
instance : TField Try.prog 39 0 0 := field_mk (n := 1) Try.runUnderlying39 rfl Try.sizeOf27 (by decide) rfl
instance : TField Try.prog 39 1 1 := field_mk (n := 1) Try.runUnderlying39 rfl Try.sizeOf30 (by decide) rfl
instance : TBuild Try.prog 39 [.slice none 0 0, .int .i64 0] [(0, 1), (1, 1)] := ⟨fun parts out w h => by simp [Instr.build, Try.zeroValue39, Try.runUnderlying39, Try.sizeOf27, Try.sizeOf30, Value.cells, h]⟩
instance : TPlain Try.prog 40 := ⟨Try.isAgg40⟩
instance : TSize Try.prog 40 1 := ⟨Try.sizeOf40⟩
instance : TZero Try.prog 40 [.nilFunc] := ⟨fun w => ⟨_, Try.zeroValue40 w, rfl⟩⟩
instance : TPlain Try.prog 41 := ⟨Try.isAgg41⟩
instance : TSize Try.prog 41 1 := ⟨Try.sizeOf41⟩
instance : TZero Try.prog 41 [.nilFunc] := ⟨fun w => ⟨_, Try.zeroValue41 w, rfl⟩⟩
instance : TPlain Try.prog 42 := ⟨Try.isAgg42⟩
instance : TSize Try.prog 42 1 := ⟨Try.sizeOf42⟩
instance : TZero Try.prog 42 [.nilFunc] := ⟨fun w => ⟨_, Try.zeroValue42 w, rfl⟩⟩
instance : TPlain Try.prog 43 := ⟨Try.isAgg43⟩
instance : TSize Try.prog 43 1 := ⟨Try.sizeOf43⟩
instance : TZero Try.prog 43 [.nilFunc] := ⟨fun w => ⟨_, Try.zeroValue43 w, rfl⟩⟩
instance : TPlain Try.prog 44 := ⟨Try.isAgg44⟩
instance : TSize Try.prog 44 1 := ⟨Try.sizeOf44⟩
instance : TZero Try.prog 44 [.nilFunc] := ⟨fun w => ⟨_, Try.zeroValue44 w, rfl⟩⟩
instance : TPlain Try.prog 45 := ⟨Try.isAgg45⟩
instance : TSize Try.prog 45 1 := ⟨Try.sizeOf45⟩
instance : TZero Try.prog 45 [.nilFunc] := ⟨fun w => ⟨_, Try.zeroValue45 w, rfl⟩⟩
instance : TAgg Try.prog 46 2 := ⟨Try.isAgg46, Try.sizeOf46⟩
instance : TSize Try.prog 46 2 := ⟨Try.sizeOf46⟩
instance : TZero Try.prog 46 [.int .i64 0, .int .i64 0] := ⟨fun w => ⟨_, Try.zeroValue46 w, rfl⟩⟩
instance : TField Try.prog 46 0 0 := field_mk (n := 1) Try.runUnderlying46 rfl Try.sizeOf3 (by decide) rfl
instance : TField Try.prog 46 1 1 := field_mk (n := 1) Try.runUnderlying46 rfl Try.sizeOf3 (by decide) rfl
instance : TBuild Try.prog 46 [.int .i64 0, .int .i64 0] [(0, 1), (1, 1)] := ⟨fun parts out w h => by simp [Instr.build, Try.zeroValue46, Try.runUnderlying46, Try.sizeOf3, Value.cells, h]⟩
instance : TEq2 Try.prog 46 := ⟨fun a b c d w => by simp [go_sem, Op.equal, Op.maxDepth]; by_cases h1 : a = c <;> by_cases h2 : b = d <;> simp [h1, h2], by kernel_rfl⟩
instance : TAgg Try.prog 47 2 := ⟨Try.isAgg47, Try.sizeOf47⟩
instance : TSize Try.prog 47 2 := ⟨Try.sizeOf47⟩
instance : TZero Try.prog 47 [.int .i64 0, .int .i64 0] := ⟨fun w => ⟨_, Try.zeroValue47 w, rfl⟩⟩
instance : TField Try.prog 47 0 0 := field_mk (n := 1) Try.runUnderlying47 rfl Try.sizeOf3 (by decide) rfl
instance : TField Try.prog 47 1 1 := field_mk (n := 1) Try.runUnderlying47 rfl Try.sizeOf3 (by decide) rfl
instance : TBuild Try.prog 47 [.int .i64 0, .int .i64 0] [(0, 1), (1, 1)] := ⟨fun parts out w h => by simp [Instr.build, Try.zeroValue47, Try.runUnderlying47, Try.sizeOf3, Value.cells, h]⟩
instance : TEq2 Try.prog 47 := ⟨fun a b c d w => by simp [go_sem, Op.equal, Op.maxDepth]; by_cases h1 : a = c <;> by_cases h2 : b = d <;> simp [h1, h2], by kernel_rfl⟩
instance : TAgg Try.prog 48 4 := ⟨Try.isAgg48, Try.sizeOf48⟩
instance : TSize Try.prog 48 4 := ⟨Try.sizeOf48⟩
instance : TZero Try.prog 48 [.int .i64 0, .int .i64 0, .int .i64 0, .int .i64 0] := ⟨fun w => ⟨_, Try.zeroValue48 w, rfl⟩⟩
instance : TBuild Try.prog 48 [.int .i64 0, .int .i64 0, .int .i64 0, .int .i64 0] [(0, 2), (2, 2)] := build_arr Try.zeroValue48 Try.runUnderlying48 Try.sizeOf47 rfl (by decide)
instance : TPlain Try.prog 49 := ⟨Try.isAgg49⟩
instance : TSize Try.prog 49 1 := ⟨Try.sizeOf49⟩
instance : TZero Try.prog 49 [.nilFunc] := ⟨fun w => ⟨_, Try.zeroValue49 w, rfl⟩⟩
instance : TAgg Try.prog 50 2 := ⟨Try.isAgg50, Try.sizeOf50⟩
instance : TSize Try.prog 50 2 := ⟨Try.sizeOf50⟩
instance : TZero Try.prog 50 [.int .i64 0, .int .i64 0] := ⟨fun w => ⟨_, Try.zeroValue50 w, rfl⟩⟩
instance : TField Try.prog 50 0 0 := field_mk (n := 1) Try.runUnderlying50 rfl Try.sizeOf3 (by decide) rfl
instance : TField Try.prog 50 1 1 := field_mk (n := 1) Try.runUnderlying50 rfl Try.sizeOf3 (by decide) rfl
instance : TBuild Try.prog 50 [.int .i64 0, .int .i64 0] [(0, 1), (1, 1)] := ⟨fun parts out w h => by simp [Instr.build, Try.zeroValue50, Try.runUnderlying50, Try.sizeOf3, Value.cells, h]⟩
instance : TEq2 Try.prog 50 := ⟨fun a b c d w => by simp [go_sem, Op.equal, Op.maxDepth]; by_cases h1 : a = c <;> by_cases h2 : b = d <;> simp [h1, h2], by kernel_rfl⟩
instance : TAgg Try.prog 51 2 := ⟨Try.isAgg51, Try.sizeOf51⟩
instance : TSize Try.prog 51 2 := ⟨Try.sizeOf51⟩
instance : TZero Try.prog 51 [.int .i64 0, .int .i64 0] := ⟨fun w => ⟨_, Try.zeroValue51 w, rfl⟩⟩
instance : TField Try.prog 51 0 0 := field_mk (n := 1) Try.runUnderlying51 rfl Try.sizeOf3 (by decide) rfl
instance : TField Try.prog 51 1 1 := field_mk (n := 1) Try.runUnderlying51 rfl Try.sizeOf3 (by decide) rfl
instance : TBuild Try.prog 51 [.int .i64 0, .int .i64 0] [(0, 1), (1, 1)] := ⟨fun parts out w h => by simp [Instr.build, Try.zeroValue51, Try.runUnderlying51, Try.sizeOf3, Value.cells, h]⟩
instance : TEq2 Try.prog 51 := ⟨fun a b c d w => by simp [go_sem, Op.equal, Op.maxDepth]; by_cases h1 : a = c <;> by_cases h2 : b = d <;> simp [h1, h2], by kernel_rfl⟩
instance : TPlain Try.prog 53 := ⟨Try.isAgg53⟩
instance : TSize Try.prog 53 1 := ⟨Try.sizeOf53⟩
instance : TZero Try.prog 53 [.nilFunc] := ⟨fun w => ⟨_, Try.zeroValue53 w, rfl⟩⟩
instance : TAgg Try.prog 54 5 := ⟨Try.isAgg54, Try.sizeOf54⟩
instance : TSize Try.prog 54 5 := ⟨Try.sizeOf54⟩
instance : TZero Try.prog 54 [.int .i64 0, .int .i64 0, .int .i64 0, .int .i64 0, .int .i64 0] := ⟨fun w => ⟨_, Try.zeroValue54 w, rfl⟩⟩
instance : TField Try.prog 54 0 0 := field_mk (n := 2) Try.runUnderlying54 rfl Try.sizeOf51 (by decide) rfl
instance : TField Try.prog 54 1 2 := field_mk (n := 2) Try.runUnderlying54 rfl Try.sizeOf51 (by decide) rfl
instance : TField Try.prog 54 2 4 := field_mk (n := 1) Try.runUnderlying54 rfl Try.sizeOf30 (by decide) rfl
instance : TBuild Try.prog 54 [.int .i64 0, .int .i64 0, .int .i64 0, .int .i64 0, .int .i64 0] [(0, 2), (2, 2), (4, 1)] := ⟨fun parts out w h => by simp [Instr.build, Try.zeroValue54, Try.runUnderlying54, Try.sizeOf30, Try.sizeOf51, Value.cells, h]⟩
instance : TAgg Try.prog 55 5 := ⟨Try.isAgg55, Try.sizeOf55⟩
instance : TSize Try.prog 55 5 := ⟨Try.sizeOf55⟩
instance : TZero Try.prog 55 [.int .i64 0, .int .i64 0, .int .i64 0, .int .i64 0, .int .i64 0] := ⟨fun w => ⟨_, Try.zeroValue55 w, rfl⟩⟩
instance : TField Try.prog 55 0 0 := field_mk (n := 2) Try.runUnderlying55 rfl Try.sizeOf51 (by decide) rfl
instance : TField Try.prog 55 1 2 := field_mk (n := 2) Try.runUnderlying55 rfl Try.sizeOf51 (by decide) rfl
instance : TField Try.prog 55 2 4 := field_mk (n := 1) Try.runUnderlying55 rfl Try.sizeOf30 (by decide) rfl
instance : TBuild Try.prog 55 [.int .i64 0, .int .i64 0, .int .i64 0, .int .i64 0, .int .i64 0] [(0, 2), (2, 2), (4, 1)] := ⟨fun parts out w h => by simp [Instr.build, Try.zeroValue55, Try.runUnderlying55, Try.sizeOf30, Try.sizeOf51, Value.cells, h]⟩
instance : TPlain Try.prog 56 := ⟨Try.isAgg56⟩
instance : TSize Try.prog 56 1 := ⟨Try.sizeOf56⟩
instance : TZero Try.prog 56 [.nilFunc] := ⟨fun w => ⟨_, Try.zeroValue56 w, rfl⟩⟩
instance : TPlain Try.prog 58 := ⟨Try.isAgg58⟩
instance : TSize Try.prog 58 1 := ⟨Try.sizeOf58⟩
instance : TZero Try.prog 58 [.nilFunc] := ⟨fun w => ⟨_, Try.zeroValue58 w, rfl⟩⟩
instance : TAgg Try.prog 59 5 := ⟨Try.isAgg59, Try.sizeOf59⟩
instance : TSize Try.prog 59 5 := ⟨Try.sizeOf59⟩
instance : TZero Try.prog 59 [.int .i64 0, .int .i64 0, .int .i64 0, .int .i64 0, .int .i64 0] := ⟨fun w => ⟨_, Try.zeroValue59 w, rfl⟩⟩
instance : TField Try.prog 59 0 0 := field_mk (n := 2) Try.runUnderlying59 rfl Try.sizeOf26 (by decide) rfl
instance : TField Try.prog 59 1 2 := field_mk (n := 2) Try.runUnderlying59 rfl Try.sizeOf26 (by decide) rfl
instance : TField Try.prog 59 2 4 := field_mk (n := 1) Try.runUnderlying59 rfl Try.sizeOf30 (by decide) rfl
instance : TBuild Try.prog 59 [.int .i64 0, .int .i64 0, .int .i64 0, .int .i64 0, .int .i64 0] [(0, 2), (2, 2), (4, 1)] := ⟨fun parts out w h => by simp [Instr.build, Try.zeroValue59, Try.runUnderlying59, Try.sizeOf26, Try.sizeOf30, Value.cells, h]⟩
instance : TAgg Try.prog 60 5 := ⟨Try.isAgg60, Try.sizeOf60⟩
instance : TSize Try.prog 60 5 := ⟨Try.sizeOf60⟩
instance : TZero Try.prog 60 [.int .i64 0, .int .i64 0, .int .i64 0, .int .i64 0, .int .i64 0] := ⟨fun w => ⟨_, Try.zeroValue60 w, rfl⟩⟩
instance : TField Try.prog 60 0 0 := field_mk (n := 2) Try.runUnderlying60 rfl Try.sizeOf26 (by decide) rfl
instance : TField Try.prog 60 1 2 := field_mk (n := 2) Try.runUnderlying60 rfl Try.sizeOf26 (by decide) rfl
instance : TField Try.prog 60 2 4 := field_mk (n := 1) Try.runUnderlying60 rfl Try.sizeOf30 (by decide) rfl
instance : TBuild Try.prog 60 [.int .i64 0, .int .i64 0, .int .i64 0, .int .i64 0, .int .i64 0] [(0, 2), (2, 2), (4, 1)] := ⟨fun parts out w h => by simp [Instr.build, Try.zeroValue60, Try.runUnderlying60, Try.sizeOf26, Try.sizeOf30, Value.cells, h]⟩
instance : TPlain Try.prog 61 := ⟨Try.isAgg61⟩
instance : TSize Try.prog 61 1 := ⟨Try.sizeOf61⟩
instance : TZero Try.prog 61 [.nilFunc] := ⟨fun w => ⟨_, Try.zeroValue61 w, rfl⟩⟩
instance : TPlain Try.prog 63 := ⟨Try.isAgg63⟩
instance : TSize Try.prog 63 1 := ⟨Try.sizeOf63⟩
instance : TZero Try.prog 63 [.nilFunc] := ⟨fun w => ⟨_, Try.zeroValue63 w, rfl⟩⟩
instance : TAgg Try.prog 64 3 := ⟨Try.isAgg64, Try.sizeOf64⟩
instance : TSize Try.prog 64 3 := ⟨Try.sizeOf64⟩
instance : TZero Try.prog 64 [.int .i64 0, .int .i64 0, .int .i64 0] := ⟨fun w => ⟨_, Try.zeroValue64 w, rfl⟩⟩
instance : TField Try.prog 64 0 0 := field_mk (n := 2) Try.runUnderlying64 rfl Try.sizeOf47 (by decide) rfl
instance : TField Try.prog 64 1 2 := field_mk (n := 1) Try.runUnderlying64 rfl Try.sizeOf30 (by decide) rfl
instance : TBuild Try.prog 64 [.int .i64 0, .int .i64 0, .int .i64 0] [(0, 2), (2, 1)] := ⟨fun parts out w h => by simp [Instr.build, Try.zeroValue64, Try.runUnderlying64, Try.sizeOf30, Try.sizeOf47, Value.cells, h]⟩
instance : TAgg Try.prog 65 3 := ⟨Try.isAgg65, Try.sizeOf65⟩
instance : TSize Try.prog 65 3 := ⟨Try.sizeOf65⟩
instance : TZero Try.prog 65 [.int .i64 0, .int .i64 0, .int .i64 0] := ⟨fun w => ⟨_, Try.zeroValue65 w, rfl⟩⟩
instance : TField Try.prog 65 0 0 := field_mk (n := 2) Try.runUnderlying65 rfl Try.sizeOf47 (by decide) rfl
instance : TField Try.prog 65 1 2 := field_mk (n := 1) Try.runUnderlying65 rfl Try.sizeOf30 (by decide) rfl
instance : TBuild Try.prog 65 [.int .i64 0, .int .i64 0, .int .i64 0] [(0, 2), (2, 1)] := ⟨fun parts out w h => by simp [Instr.build, Try.zeroValue65, Try.runUnderlying65, Try.sizeOf30, Try.sizeOf47, Value.cells, h]⟩
instance : TPlain Try.prog 66 := ⟨Try.isAgg66⟩
instance : TSize Try.prog 66 1 := ⟨Try.sizeOf66⟩
instance : TZero Try.prog 66 [.nilFunc] := ⟨fun w => ⟨_, Try.zeroValue66 w, rfl⟩⟩
instance : TPlain Try.prog 67 := ⟨Try.isAgg67⟩
instance : TSize Try.prog 67 1 := ⟨Try.sizeOf67⟩
instance : TZero Try.prog 67 [.nilFunc] := ⟨fun w => ⟨_, Try.zeroValue67 w, rfl⟩⟩
instance : TAgg Try.prog 68 6 := ⟨Try.isAgg68, Try.sizeOf68⟩
instance : TSize Try.prog 68 6 := ⟨Try.sizeOf68⟩
instance : TZero Try.prog 68 [.int .i64 0, .int .i64 0, .int .i64 0, .int .i64 0, .int .i64 0, .int .i64 0] := ⟨fun w => ⟨_, Try.zeroValue68 w, rfl⟩⟩
instance : TField Try.prog 68 0 0 := field_mk (n := 1) Try.runUnderlying68 rfl Try.sizeOf3 (by decide) rfl
instance : TField Try.prog 68 1 1 := field_mk (n := 1) Try.runUnderlying68 rfl Try.sizeOf3 (by decide) rfl
instance : TField Try.prog 68 2 2 := field_mk (n := 1) Try.runUnderlying68 rfl Try.sizeOf3 (by decide) rfl
instance : TField Try.prog 68 3 3 := field_mk (n := 1) Try.runUnderlying68 rfl Try.sizeOf3 (by decide) rfl
instance : TField Try.prog 68 4 4 := field_mk (n := 1) Try.runUnderlying68 rfl Try.sizeOf3 (by decide) rfl
instance : TField Try.prog 68 5 5 := field_mk (n := 1) Try.runUnderlying68 rfl Try.sizeOf3 (by decide) rfl
instance : TBuild Try.prog 68 [.int .i64 0, .int .i64 0, .int .i64 0, .int .i64 0, .int .i64 0, .int .i64 0] [(0, 1), (1, 1), (2, 1), (3, 1), (4, 1), (5, 1)] := ⟨fun parts out w h => by simp [Instr.build, Try.zeroValue68, Try.runUnderlying68, Try.sizeOf3, Value.cells, h]⟩
instance : TAgg Try.prog 69 6 := ⟨Try.isAgg69, Try.sizeOf69⟩
instance : TSize Try.prog 69 6 := ⟨Try.sizeOf69⟩
instance : TZero Try.prog 69 [.int .i64 0, .int .i64 0, .int .i64 0, .int .i64 0, .int .i64 0, .int .i64 0] := ⟨fun w => ⟨_, Try.zeroValue69 w, rfl⟩⟩
instance : TField Try.prog 69 0 0 := field_mk (n := 1) Try.runUnderlying69 rfl Try.sizeOf3 (by decide) rfl
instance : TField Try.prog 69 1 1 := field_mk (n := 1) Try.runUnderlying69 rfl Try.sizeOf3 (by decide) rfl
instance : TField Try.prog 69 2 2 := field_mk (n := 1) Try.runUnderlying69 rfl Try.sizeOf3 (by decide) rfl
instance : TField Try.prog 69 3 3 := field_mk (n := 1) Try.runUnderlying69 rfl Try.sizeOf3 (by decide) rfl
instance : TField Try.prog 69 4 4 := field_mk (n := 1) Try.runUnderlying69 rfl Try.sizeOf3 (by decide) rfl
instance : TField Try.prog 69 5 5 := field_mk (n := 1) Try.runUnderlying69 rfl Try.sizeOf3 (by decide) rfl
instance : TBuild Try.prog 69 [.int .i64 0, .int .i64 0, .int .i64 0, .int .i64 0, .int .i64 0, .int .i64 0] [(0, 1), (1, 1), (2, 1), (3, 1), (4, 1), (5, 1)] := ⟨fun parts out w h => by simp [Instr.build, Try.zeroValue69, Try.runUnderlying69, Try.sizeOf3, Value.cells, h]⟩
instance : TPlain Try.prog 70 := ⟨Try.isAgg70⟩
instance : TSize Try.prog 70 1 := ⟨Try.sizeOf70⟩
instance : TZero Try.prog 70 [.nilFunc] := ⟨fun w => ⟨_, Try.zeroValue70 w, rfl⟩⟩
instance : TAgg Try.prog 71 2 := ⟨Try.isAgg71, Try.sizeOf71⟩
instance : TSize Try.prog 71 2 := ⟨Try.sizeOf71⟩
instance : TZero Try.prog 71 [.int .u8 0, .int .u8 0] := ⟨fun w => ⟨_, Try.zeroValue71 w, rfl⟩⟩
instance : TBuild Try.prog 71 [.int .u8 0, .int .u8 0] [(0, 1), (1, 1)] := build_arr Try.zeroValue71 Try.runUnderlying71 Try.sizeOf5 rfl (by decide)
instance : TPlain Try.prog 72 := ⟨Try.isAgg72⟩
instance : TSize Try.prog 72 1 := ⟨Try.sizeOf72⟩
instance : TZero Try.prog 72 [.nilFunc] := ⟨fun w => ⟨_, Try.zeroValue72 w, rfl⟩⟩
instance : TPlain Try.prog 73 := ⟨Try.isAgg73⟩
instance : TSize Try.prog 73 1 := ⟨Try.sizeOf73⟩
instance : TZero Try.prog 73 [.int .u16 0] := ⟨fun w => ⟨_, Try.zeroValue73 w, rfl⟩⟩
instance : TAgg Try.prog 74 3 := ⟨Try.isAgg74, Try.sizeOf74⟩
instance : TSize Try.prog 74 3 := ⟨Try.sizeOf74⟩
instance : TZero Try.prog 74 [.int .u16 0, .int .u16 0, .int .u16 0] := ⟨fun w => ⟨_, Try.zeroValue74 w, rfl⟩⟩
instance : TBuild Try.prog 74 [.int .u16 0, .int .u16 0, .int .u16 0] [(0, 1), (1, 1), (2, 1)] := build_arr Try.zeroValue74 Try.runUnderlying74 Try.sizeOf73 rfl (by decide)
instance : TPlain Try.prog 75 := ⟨Try.isAgg75⟩
instance : TSize Try.prog 75 1 := ⟨Try.sizeOf75⟩
instance : TZero Try.prog 75 [.nilFunc] := ⟨fun w => ⟨_, Try.zeroValue75 w, rfl⟩⟩
instance : TPlain Try.prog 76 := ⟨Try.isAgg76⟩
instance : TSize Try.prog 76 1 := ⟨Try.sizeOf76⟩
instance : TZero Try.prog 76 [.nilFunc] := ⟨fun w => ⟨_, Try.zeroValue76 w, rfl⟩⟩
instance : TPlain Try.prog 77 := ⟨Try.isAgg77⟩
instance : TSize Try.prog 77 1 := ⟨Try.sizeOf77⟩
instance : TZero Try.prog 77 [.nilFunc] := ⟨fun w => ⟨_, Try.zeroValue77 w, rfl⟩⟩
instance : TPlain Try.prog 79 := ⟨Try.isAgg79⟩
instance : TSize Try.prog 79 1 := ⟨Try.sizeOf79⟩
instance : TZero Try.prog 79 [.nilFunc] := ⟨fun w => ⟨_, Try.zeroValue79 w, rfl⟩⟩
instance : TPlain Try.prog 80 := ⟨Try.isAgg80⟩
instance : TSize Try.prog 80 1 := ⟨Try.sizeOf80⟩
instance : TZero Try.prog 80 [.nilFunc] := ⟨fun w => ⟨_, Try.zeroValue80 w, rfl⟩⟩
instance : TPlain Try.prog 81 := ⟨Try.isAgg81⟩
instance : TSize Try.prog 81 1 := ⟨Try.sizeOf81⟩
instance : TZero Try.prog 81 [.nilFunc] := ⟨fun w => ⟨_, Try.zeroValue81 w, rfl⟩⟩
instance : TPlain Try.prog 82 := ⟨Try.isAgg82⟩
instance : TSize Try.prog 82 1 := ⟨Try.sizeOf82⟩
instance : TZero Try.prog 82 [.nilFunc] := ⟨fun w => ⟨_, Try.zeroValue82 w, rfl⟩⟩
instance : TPlain Try.prog 83 := ⟨Try.isAgg83⟩
instance : TSize Try.prog 83 1 := ⟨Try.sizeOf83⟩
instance : TZero Try.prog 83 [.nilFunc] := ⟨fun w => ⟨_, Try.zeroValue83 w, rfl⟩⟩
instance : TPlain Try.prog 84 := ⟨Try.isAgg84⟩
instance : TSize Try.prog 84 1 := ⟨Try.sizeOf84⟩
instance : TZero Try.prog 84 [.nilFunc] := ⟨fun w => ⟨_, Try.zeroValue84 w, rfl⟩⟩
instance : TPlain Try.prog 85 := ⟨Try.isAgg85⟩
instance : TSize Try.prog 85 1 := ⟨Try.sizeOf85⟩
instance : TZero Try.prog 85 [.nilFunc] := ⟨fun w => ⟨_, Try.zeroValue85 w, rfl⟩⟩
instance : TPlain Try.prog 86 := ⟨Try.isAgg86⟩
instance : TSize Try.prog 86 1 := ⟨Try.sizeOf86⟩
instance : TZero Try.prog 86 [.nilFunc] := ⟨fun w => ⟨_, Try.zeroValue86 w, rfl⟩⟩
instance : TPlain Try.prog 87 := ⟨Try.isAgg87⟩
instance : TSize Try.prog 87 1 := ⟨Try.sizeOf87⟩
instance : TZero Try.prog 87 [.nilFunc] := ⟨fun w => ⟨_, Try.zeroValue87 w, rfl⟩⟩
instance : TPlain Try.prog 88 := ⟨Try.isAgg88⟩
instance : TSize Try.prog 88 1 := ⟨Try.sizeOf88⟩
instance : TZero Try.prog 88 [.nilFunc] := ⟨fun w => ⟨_, Try.zeroValue88 w, rfl⟩⟩
instance : TAgg Try.prog 89 3 := ⟨Try.isAgg89, Try.sizeOf89⟩
instance : TSize Try.prog 89 3 := ⟨Try.sizeOf89⟩
instance : TZero Try.prog 89 [.int .i64 0, .int .i64 0, .int .i64 0] := ⟨fun w => ⟨_, Try.zeroValue89 w, rfl⟩⟩
instance : TField Try.prog 89 0 0 := field_mk (n := 1) Try.runUnderlying89 rfl Try.sizeOf3 (by decide) rfl
instance : TField Try.prog 89 1 1 := field_mk (n := 1) Try.runUnderlying89 rfl Try.sizeOf3 (by decide) rfl
instance : TField Try.prog 89 2 2 := field_mk (n := 1) Try.runUnderlying89 rfl Try.sizeOf3 (by decide) rfl
instance : TBuild Try.prog 89 [.int .i64 0, .int .i64 0, .int .i64 0] [(0, 1), (1, 1), (2, 1)] := ⟨fun parts out w h => by simp [Instr.build, Try.zeroValue89, Try.runUnderlying89, Try.sizeOf3, Value.cells, h]⟩
instance : TAgg Try.prog 90 3 := ⟨Try.isAgg90, Try.sizeOf90⟩
instance : TSize Try.prog 90 3 := ⟨Try.sizeOf90⟩
instance : TZero Try.prog 90 [.int .i64 0, .int .i64 0, .int .i64 0] := ⟨fun w => ⟨_, Try.zeroValue90 w, rfl⟩⟩
instance : TField Try.prog 90 0 0 := field_mk (n := 1) Try.runUnderlying90 rfl Try.sizeOf3 (by decide) rfl
instance : TField Try.prog 90 1 1 := field_mk (n := 1) Try.runUnderlying90 rfl Try.sizeOf3 (by decide) rfl
instance : TField Try.prog 90 2 2 := field_mk (n := 1) Try.runUnderlying90 rfl Try.sizeOf3 (by decide) rfl
instance : TBuild Try.prog 90 [.int .i64 0, .int .i64 0, .int .i64 0] [(0, 1), (1, 1), (2, 1)] := ⟨fun parts out w h => by simp [Instr.build, Try.zeroValue90, Try.runUnderlying90, Try.sizeOf3, Value.cells, h]⟩
instance : TPlain Try.prog 91 := ⟨Try.isAgg91⟩
instance : TSize Try.prog 91 1 := ⟨Try.sizeOf91⟩
instance : TZero Try.prog 91 [.nilFunc] := ⟨fun w => ⟨_, Try.zeroValue91 w, rfl⟩⟩
instance : TPlain Try.prog 92 := ⟨Try.isAgg92⟩
instance : TSize Try.prog 92 1 := ⟨Try.sizeOf92⟩
instance : TZero Try.prog 92 [.nilFunc] := ⟨fun w => ⟨_, Try.zeroValue92 w, rfl⟩⟩
instance : TPlain Try.prog 93 := ⟨Try.isAgg93⟩
instance : TSize Try.prog 93 1 := ⟨Try.sizeOf93⟩
instance : TZero Try.prog 93 [.nilFunc] := ⟨fun w => ⟨_, Try.zeroValue93 w, rfl⟩⟩
instance : TPlain Try.prog 94 := ⟨Try.isAgg94⟩
instance : TSize Try.prog 94 1 := ⟨Try.sizeOf94⟩
instance : TZero Try.prog 94 [.nilFunc] := ⟨fun w => ⟨_, Try.zeroValue94 w, rfl⟩⟩
instance : TPlain Try.prog 95 := ⟨Try.isAgg95⟩
instance : TSize Try.prog 95 1 := ⟨Try.sizeOf95⟩
instance : TZero Try.prog 95 [.nilFunc] := ⟨fun w => ⟨_, Try.zeroValue95 w, rfl⟩⟩
instance : TPlain Try.prog 101 := ⟨Try.isAgg101⟩
instance : TSize Try.prog 101 1 := ⟨Try.sizeOf101⟩
instance : TZero Try.prog 101 [.nilFunc] := ⟨fun w => ⟨_, Try.zeroValue101 w, rfl⟩⟩
instance : TPlain Try.prog 102 := ⟨Try.isAgg102⟩
instance : TSize Try.prog 102 1 := ⟨Try.sizeOf102⟩
instance : TZero Try.prog 102 [.int .u32 0] := ⟨fun w => ⟨_, Try.zeroValue102 w, rfl⟩⟩
instance : TPlain Try.prog 105 := ⟨Try.isAgg105⟩
instance : TSize Try.prog 105 1 := ⟨Try.sizeOf105⟩
instance : TZero Try.prog 105 [.nilFunc] := ⟨fun w => ⟨_, Try.zeroValue105 w, rfl⟩⟩
instance : TPlain Try.prog 106 := ⟨Try.isAgg106⟩
instance : TSize Try.prog 106 1 := ⟨Try.sizeOf106⟩
instance : TZero Try.prog 106 [.pointer none] := ⟨fun w => ⟨_, Try.zeroValue106 w, rfl⟩⟩
instance : Fun Try.prog 3 := ⟨Try.call3⟩
instance : Fun Try.prog 4 := ⟨Try.call4⟩
instance : Fun Try.prog 5 := ⟨Try.call5⟩
instance : Fun Try.prog 6 := ⟨Try.call6⟩
instance : Fun Try.prog 7 := ⟨Try.call7⟩
instance : Fun Try.prog 8 := ⟨Try.call8⟩
instance : Fun Try.prog 9 := ⟨Try.call9⟩
instance : Fun Try.prog 10 := ⟨Try.call10⟩
instance : Fun Try.prog 11 := ⟨Try.call11⟩
instance : Fun Try.prog 12 := ⟨Try.call12⟩
instance : Fun Try.prog 13 := ⟨Try.call13⟩
instance : Fun Try.prog 14 := ⟨Try.call14⟩
instance : Fun Try.prog 15 := ⟨Try.call15⟩
instance : Fun Try.prog 16 := ⟨Try.call16⟩
instance : Fun Try.prog 17 := ⟨Try.call17⟩
instance : Fun Try.prog 18 := ⟨Try.call18⟩
instance : Fun Try.prog 19 := ⟨Try.call19⟩
instance : Fun Try.prog 20 := ⟨Try.call20⟩
instance : Fun Try.prog 21 := ⟨Try.call21⟩
instance : Fun Try.prog 22 := ⟨Try.call22⟩
instance : Fun Try.prog 23 := ⟨Try.call23⟩
instance : Fun Try.prog 24 := ⟨Try.call24⟩
instance : Fun Try.prog 25 := ⟨Try.call25⟩
instance : Fun Try.prog 26 := ⟨Try.call26⟩
instance : Fun Try.prog 27 := ⟨Try.call27⟩
instance : Fun Try.prog 28 := ⟨Try.call28⟩
instance : Fun Try.prog 29 := ⟨Try.call29⟩
instance : Fun Try.prog 30 := ⟨Try.call30⟩
instance : Fun Try.prog 31 := ⟨Try.call31⟩
instance : Fun Try.prog 32 := ⟨Try.call32⟩
instance : Fun Try.prog 33 := ⟨Try.call33⟩
instance : Fun Try.prog 34 := ⟨Try.call34⟩
instance : Fun Try.prog 35 := ⟨Try.call35⟩
instance : Fun Try.prog 36 := ⟨Try.call36⟩
instance : Fun Try.prog 37 := ⟨Try.call37⟩
instance : Fun Try.prog 38 := ⟨Try.call38⟩
instance : Fun Try.prog 39 := ⟨Try.call39⟩
instance : Fun Try.prog 40 := ⟨Try.call40⟩
instance : Fun Try.prog 41 := ⟨Try.call41⟩
instance : Fun Try.prog 42 := ⟨Try.call42⟩
instance : Fun Try.prog 43 := ⟨Try.call43⟩
instance : Fun Try.prog 44 := ⟨Try.call44⟩
instance : Fun Try.prog 45 := ⟨Try.call45⟩
instance : Fun Try.prog 46 := ⟨Try.call46⟩
instance : Fun Try.prog 47 := ⟨Try.call47⟩
theorem Try.mixed : Try.prog.follows .mixedOrders = true := by decide +kernel
end Go.Proofs
