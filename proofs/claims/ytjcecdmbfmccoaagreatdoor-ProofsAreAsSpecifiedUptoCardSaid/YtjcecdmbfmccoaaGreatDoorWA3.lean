/-
  The types and functions of this seat, as the small logic of memory takes them.
-/
import Derived.Test.YtjcecdmbfmccoaaGreatDoorWA2
import Derived.Test.YtjcecdmbfmccoaaGreatDoorProg
import Derived.Maps.RangeRun
set_option linter.unusedVariables false
set_option linter.unusedSimpArgs false
set_option linter.unusedSectionVars false
namespace Go.Proofs
open Go.Sl
instance:eV Tryz.prog 3:=⟨Tryz.isAgg3⟩
instance:cP Tryz.prog 3 1:=⟨Tryz.sizeOf3⟩
instance:fW Tryz.prog 3 [.int .i64 0]:=⟨fun w=>⟨_,Tryz.zeroValue3 w,rfl⟩⟩
instance:uB Tryz.prog 3 .i64:=⟨Tryz.underlying3⟩
instance:eV Tryz.prog 4:=⟨Tryz.isAgg4⟩
instance:cP Tryz.prog 4 1:=⟨Tryz.sizeOf4⟩
instance:GI Tryz.prog 4:=⟨Tryz.underlying4⟩
instance:eV Tryz.prog 5:=⟨Tryz.isAgg5⟩
instance:cP Tryz.prog 5 1:=⟨Tryz.sizeOf5⟩
instance:uB Tryz.prog 5 .u8:=⟨Tryz.underlying5⟩
instance:eV Tryz.prog 9:=⟨Tryz.isAgg9⟩
instance:iD Tryz.prog 9:=⟨Tryz.underlying9⟩
instance:bN Tryz.prog 22 67 5:=⟨Tryz.underlying22,Tryz.sizeOf67⟩
instance:cZ Tryz.prog 22 67 (.agg #[.int .i64 0,.int .i64 0,.slice none 0 0,.int .i64 0,.int .i64 0]) 5 56:=⟨Tryz.underlying22,by kernel_rfl,rfl,by decide⟩
instance:eV Tryz.prog 23:=⟨Tryz.isAgg23⟩
instance:bN Tryz.prog 23 119 7:=⟨Tryz.underlying23,Tryz.sizeOf119⟩
instance:cZ Tryz.prog 23 119 (.agg #[.int .i64 0,.int .i64 0,.bool false,.string ⟨#[]⟩,.string ⟨#[]⟩,.int .i64 0,.slice none 0 0]) 7 88:=⟨Tryz.underlying23,by kernel_rfl,rfl,by decide⟩
instance:gZ Tryz.prog 25 3:=⟨Tryz.isAgg25,Tryz.sizeOf25⟩
instance:cP Tryz.prog 25 3:=⟨Tryz.sizeOf25⟩
instance:fW Tryz.prog 25 [.bool false,.string ⟨#[]⟩,.string ⟨#[]⟩]:=⟨fun w=>⟨_,Tryz.zeroValue25 w,rfl⟩⟩
instance:aV Tryz.prog 25 0 0:=aM (n:=1) Tryz.runUnderlying25 rfl Tryz.sizeOf4 dc rfl
instance:aV Tryz.prog 25 1 1:=aM (n:=1) Tryz.runUnderlying25 rfl Tryz.sizeOf9 dc rfl
instance:aV Tryz.prog 25 2 2:=aM (n:=1) Tryz.runUnderlying25 rfl Tryz.sizeOf9 dc rfl
instance:dN Tryz.prog 25 [.bool false,.string ⟨#[]⟩,.string ⟨#[]⟩] [(0,1),(1,1),(2,1)]:=⟨fun parts out w h=>by simp [Instr.build,Tryz.zeroValue25,Tryz.runUnderlying25,Tryz.sizeOf4,Tryz.sizeOf9,Value.cells,h]⟩
instance:gZ Tryz.prog 27 6:=⟨Tryz.isAgg27,Tryz.sizeOf27⟩
instance:aV Tryz.prog 27 0 0:=aM (n:=3) Tryz.runUnderlying27 rfl Tryz.sizeOf25 dc rfl
instance:aV Tryz.prog 27 1 3:=aM (n:=3) Tryz.runUnderlying27 rfl Tryz.sizeOf25 dc rfl
instance:dN Tryz.prog 27 [.bool false,.string ⟨#[]⟩,.string ⟨#[]⟩,.bool false,.string ⟨#[]⟩,.string ⟨#[]⟩] [(0,3),(3,3)]:=⟨fun parts out w h=>by simp [Instr.build,Tryz.zeroValue27,Tryz.runUnderlying27,Tryz.sizeOf25,Value.cells,h]⟩
instance:eV Tryz.prog 28:=⟨Tryz.isAgg28⟩
instance:bN Tryz.prog 28 3 1:=⟨Tryz.underlying28,Tryz.sizeOf3⟩
instance:cZ Tryz.prog 28 3 (.int .i64 0) 1 8:=⟨Tryz.underlying28,by kernel_rfl,rfl,by decide⟩
instance:gZ Tryz.prog 30 2:=⟨Tryz.isAgg30,Tryz.sizeOf30⟩
instance:cP Tryz.prog 30 2:=⟨Tryz.sizeOf30⟩
instance:fW Tryz.prog 30 [.int .i64 0,.slice none 0 0]:=⟨fun w=>⟨_,Tryz.zeroValue30 w,rfl⟩⟩
instance:aV Tryz.prog 30 0 0:=aM (n:=1) Tryz.runUnderlying30 rfl Tryz.sizeOf3 dc rfl
instance:aV Tryz.prog 30 1 1:=aM (n:=1) Tryz.runUnderlying30 rfl Tryz.sizeOf28 dc rfl
instance:dN Tryz.prog 30 [.int .i64 0,.slice none 0 0] [(0,1),(1,1)]:=⟨fun parts out w h=>by simp [Instr.build,Tryz.zeroValue30,Tryz.runUnderlying30,Tryz.sizeOf28,Tryz.sizeOf3,Value.cells,h]⟩
instance:eV Tryz.prog 31:=⟨Tryz.isAgg31⟩
instance:cP Tryz.prog 31 1:=⟨Tryz.sizeOf31⟩
instance:bN Tryz.prog 31 63 2:=⟨Tryz.underlying31,Tryz.sizeOf63⟩
instance:cZ Tryz.prog 31 63 (.agg #[.slice none 0 0,.slice none 0 0]) 2 48:=⟨Tryz.underlying31,by kernel_rfl,rfl,by decide⟩
instance:gZ Tryz.prog 33 12:=⟨Tryz.isAgg33,Tryz.sizeOf33⟩
instance:cP Tryz.prog 33 12:=⟨Tryz.sizeOf33⟩
instance:fW Tryz.prog 33 [.bool false,.string ⟨#[]⟩,.string ⟨#[]⟩,.bool false,.string ⟨#[]⟩,.string ⟨#[]⟩,.int .i64 0,.slice none 0 0,.int .i64 0,.slice none 0 0,.slice none 0 0,.slice none 0 0]:=⟨fun w=>⟨_,Tryz.zeroValue33 w,rfl⟩⟩
instance:aV Tryz.prog 33 0 0:=aM (n:=6) Tryz.runUnderlying33 rfl Tryz.sizeOf27 dc rfl
instance:aV Tryz.prog 33 1 6:=aM (n:=2) Tryz.runUnderlying33 rfl Tryz.sizeOf30 dc rfl
instance:aV Tryz.prog 33 2 8:=aM (n:=2) Tryz.runUnderlying33 rfl Tryz.sizeOf30 dc rfl
instance:aV Tryz.prog 33 3 10:=aM (n:=1) Tryz.runUnderlying33 rfl Tryz.sizeOf31 dc rfl
instance:aV Tryz.prog 33 4 11:=aM (n:=1) Tryz.runUnderlying33 rfl Tryz.sizeOf31 dc rfl
instance:dN Tryz.prog 33 [.bool false,.string ⟨#[]⟩,.string ⟨#[]⟩,.bool false,.string ⟨#[]⟩,.string ⟨#[]⟩,.int .i64 0,.slice none 0 0,.int .i64 0,.slice none 0 0,.slice none 0 0,.slice none 0 0] [(0,6),(6,2),(8,2),(10,1),(11,1)]:=⟨fun parts out w h=>by simp [Instr.build,Tryz.zeroValue33,Tryz.runUnderlying33,Tryz.sizeOf27,Tryz.sizeOf30,Tryz.sizeOf31,Value.cells,h]⟩
instance:eV Tryz.prog 61:=⟨Tryz.isAgg61⟩
instance:cP Tryz.prog 61 1:=⟨Tryz.sizeOf61⟩
instance:bN Tryz.prog 61 25 3:=⟨Tryz.underlying61,Tryz.sizeOf25⟩
instance:cZ Tryz.prog 61 25 (.agg #[.bool false,.string ⟨#[]⟩,.string ⟨#[]⟩]) 3 40:=⟨Tryz.underlying61,by kernel_rfl,rfl,by decide⟩
instance:gZ Tryz.prog 63 2:=⟨Tryz.isAgg63,Tryz.sizeOf63⟩
instance:cP Tryz.prog 63 2:=⟨Tryz.sizeOf63⟩
instance:fW Tryz.prog 63 [.slice none 0 0,.slice none 0 0]:=⟨fun w=>⟨_,Tryz.zeroValue63 w,rfl⟩⟩
instance:aV Tryz.prog 63 0 0:=aM (n:=1) Tryz.runUnderlying63 rfl Tryz.sizeOf61 dc rfl
instance:aV Tryz.prog 63 1 1:=aM (n:=1) Tryz.runUnderlying63 rfl Tryz.sizeOf61 dc rfl
instance:dN Tryz.prog 63 [.slice none 0 0,.slice none 0 0] [(0,1),(1,1)]:=⟨fun parts out w h=>by simp [Instr.build,Tryz.zeroValue63,Tryz.runUnderlying63,Tryz.sizeOf61,Value.cells,h]⟩
instance:eV Tryz.prog 65:=⟨Tryz.isAgg65⟩
instance:bN Tryz.prog 65 95 2:=⟨Tryz.underlying65,Tryz.sizeOf95⟩
instance:cZ Tryz.prog 65 95 (.agg #[.int .i64 0,.int .i64 0]) 2 16:=⟨Tryz.underlying65,by kernel_rfl,rfl,by decide⟩
instance:gZ Tryz.prog 67 5:=⟨Tryz.isAgg67,Tryz.sizeOf67⟩
instance:cP Tryz.prog 67 5:=⟨Tryz.sizeOf67⟩
instance:fW Tryz.prog 67 [.int .i64 0,.int .i64 0,.slice none 0 0,.int .i64 0,.int .i64 0]:=⟨fun w=>⟨_,Tryz.zeroValue67 w,rfl⟩⟩
instance:aV Tryz.prog 67 0 0:=aM (n:=1) Tryz.runUnderlying67 rfl Tryz.sizeOf3 dc rfl
instance:aV Tryz.prog 67 1 1:=aM (n:=1) Tryz.runUnderlying67 rfl Tryz.sizeOf3 dc rfl
instance:aV Tryz.prog 67 2 2:=aM (n:=1) Tryz.runUnderlying67 rfl Tryz.sizeOf65 dc rfl
instance:aV Tryz.prog 67 3 3:=aM (n:=1) Tryz.runUnderlying67 rfl Tryz.sizeOf3 dc rfl
instance:aV Tryz.prog 67 4 4:=aM (n:=1) Tryz.runUnderlying67 rfl Tryz.sizeOf3 dc rfl
instance:dN Tryz.prog 67 [.int .i64 0,.int .i64 0,.slice none 0 0,.int .i64 0,.int .i64 0] [(0,1),(1,1),(2,1),(3,1),(4,1)]:=⟨fun parts out w h=>by simp [Instr.build,Tryz.zeroValue67,Tryz.runUnderlying67,Tryz.sizeOf3,Tryz.sizeOf65,Value.cells,h]⟩
instance:bN Tryz.prog 81 82 1:=⟨Tryz.underlying81,Tryz.sizeOf82⟩
instance:cZ Tryz.prog 81 82 (.slice none 0 0) 1 24:=⟨Tryz.underlying81,by kernel_rfl,rfl,by decide⟩
instance:eV Tryz.prog 82:=⟨Tryz.isAgg82⟩
instance:bN Tryz.prog 82 90 2:=⟨Tryz.underlying82,Tryz.sizeOf90⟩
instance:cZ Tryz.prog 82 90 (.agg #[.int .i64 0,.int .i64 0]) 2 16:=⟨Tryz.underlying82,by kernel_rfl,rfl,by decide⟩
instance:gZ Tryz.prog 90 2:=⟨Tryz.isAgg90,Tryz.sizeOf90⟩
instance:cP Tryz.prog 90 2:=⟨Tryz.sizeOf90⟩
instance:fW Tryz.prog 90 [.int .i64 0,.int .i64 0]:=⟨fun w=>⟨_,Tryz.zeroValue90 w,rfl⟩⟩
instance:aV Tryz.prog 90 0 0:=aM (n:=1) Tryz.runUnderlying90 rfl Tryz.sizeOf3 dc rfl
instance:aV Tryz.prog 90 1 1:=aM (n:=1) Tryz.runUnderlying90 rfl Tryz.sizeOf3 dc rfl
instance:dN Tryz.prog 90 [.int .i64 0,.int .i64 0] [(0,1),(1,1)]:=⟨fun parts out w h=>by simp [Instr.build,Tryz.zeroValue90,Tryz.runUnderlying90,Tryz.sizeOf3,Value.cells,h]⟩
instance:gZ Tryz.prog 95 2:=⟨Tryz.isAgg95,Tryz.sizeOf95⟩
instance:cP Tryz.prog 95 2:=⟨Tryz.sizeOf95⟩
instance:fW Tryz.prog 95 [.int .i64 0,.int .i64 0]:=⟨fun w=>⟨_,Tryz.zeroValue95 w,rfl⟩⟩
instance:aV Tryz.prog 95 0 0:=aM (n:=1) Tryz.runUnderlying95 rfl Tryz.sizeOf3 dc rfl
instance:aV Tryz.prog 95 1 1:=aM (n:=1) Tryz.runUnderlying95 rfl Tryz.sizeOf3 dc rfl
instance:dN Tryz.prog 95 [.int .i64 0,.int .i64 0] [(0,1),(1,1)]:=⟨fun parts out w h=>by simp [Instr.build,Tryz.zeroValue95,Tryz.runUnderlying95,Tryz.sizeOf3,Value.cells,h]⟩
instance:eV Tryz.prog 115:=⟨Tryz.isAgg115⟩
instance:bN Tryz.prog 115 137 4:=⟨Tryz.underlying115,Tryz.sizeOf137⟩
instance:cZ Tryz.prog 115 137 (.agg #[.int .i64 0,.bool false,.string ⟨#[]⟩,.string ⟨#[]⟩]) 4 48:=⟨Tryz.underlying115,by kernel_rfl,rfl,by decide⟩
instance:gZ Tryz.prog 117 1:=⟨Tryz.isAgg117,Tryz.sizeOf117⟩
instance:cP Tryz.prog 117 1:=⟨Tryz.sizeOf117⟩
instance:fW Tryz.prog 117 [.slice none 0 0]:=⟨fun w=>⟨_,Tryz.zeroValue117 w,rfl⟩⟩
instance:aV Tryz.prog 117 0 0:=aM (n:=1) Tryz.runUnderlying117 rfl Tryz.sizeOf115 dc rfl
instance:dN Tryz.prog 117 [.slice none 0 0] [(0,1)]:=⟨fun parts out w h=>by simp [Instr.build,Tryz.zeroValue117,Tryz.runUnderlying117,Tryz.sizeOf115,Value.cells,h]⟩
instance:gZ Tryz.prog 119 7:=⟨Tryz.isAgg119,Tryz.sizeOf119⟩
instance:cP Tryz.prog 119 7:=⟨Tryz.sizeOf119⟩
instance:fW Tryz.prog 119 [.int .i64 0,.int .i64 0,.bool false,.string ⟨#[]⟩,.string ⟨#[]⟩,.int .i64 0,.slice none 0 0]:=⟨fun w=>⟨_,Tryz.zeroValue119 w,rfl⟩⟩
instance:aV Tryz.prog 119 0 0:=aM (n:=1) Tryz.runUnderlying119 rfl Tryz.sizeOf3 dc rfl
instance:aV Tryz.prog 119 1 1:=aM (n:=1) Tryz.runUnderlying119 rfl Tryz.sizeOf3 dc rfl
instance:aV Tryz.prog 119 2 2:=aM (n:=3) Tryz.runUnderlying119 rfl Tryz.sizeOf25 dc rfl
instance:aV Tryz.prog 119 3 5:=aM (n:=1) Tryz.runUnderlying119 rfl Tryz.sizeOf3 dc rfl
instance:aV Tryz.prog 119 4 6:=aM (n:=1) Tryz.runUnderlying119 rfl Tryz.sizeOf117 dc rfl
instance:dN Tryz.prog 119 [.int .i64 0,.int .i64 0,.bool false,.string ⟨#[]⟩,.string ⟨#[]⟩,.int .i64 0,.slice none 0 0] [(0,1),(1,1),(2,3),(5,1),(6,1)]:=⟨fun parts out w h=>by simp [Instr.build,Tryz.zeroValue119,Tryz.runUnderlying119,Tryz.sizeOf117,Tryz.sizeOf25,Tryz.sizeOf3,Value.cells,h]⟩
instance:eV Tryz.prog 121:=⟨Tryz.isAgg121⟩
instance:aV Tryz.prog 123 0 0:=aM (n:=1) Tryz.runUnderlying123 rfl Tryz.sizeOf23 dc rfl
instance:aV Tryz.prog 123 1 1:=aM (n:=1) Tryz.runUnderlying123 rfl Tryz.sizeOf121 dc rfl
instance:aV Tryz.prog 123 2 2:=aM (n:=3) Tryz.runUnderlying123 rfl Tryz.sizeOf25 dc rfl
instance:dN Tryz.prog 123 [.slice none 0 0,.map none,.bool false,.string ⟨#[]⟩,.string ⟨#[]⟩] [(0,1),(1,1),(2,3)]:=⟨fun parts out w h=>by simp [Instr.build,Tryz.zeroValue123,Tryz.runUnderlying123,Tryz.sizeOf121,Tryz.sizeOf23,Tryz.sizeOf25,Value.cells,h]⟩
instance:gZ Tryz.prog 125 3:=⟨Tryz.isAgg125,Tryz.sizeOf125⟩
instance:cP Tryz.prog 125 3:=⟨Tryz.sizeOf125⟩
instance:fW Tryz.prog 125 [.bool false,.string ⟨#[]⟩,.string ⟨#[]⟩]:=⟨fun w=>⟨_,Tryz.zeroValue125 w,rfl⟩⟩
instance:aV Tryz.prog 125 0 0:=aM (n:=1) Tryz.runUnderlying125 rfl Tryz.sizeOf4 dc rfl
instance:aV Tryz.prog 125 1 1:=aM (n:=1) Tryz.runUnderlying125 rfl Tryz.sizeOf9 dc rfl
instance:aV Tryz.prog 125 2 2:=aM (n:=1) Tryz.runUnderlying125 rfl Tryz.sizeOf9 dc rfl
instance:dN Tryz.prog 125 [.bool false,.string ⟨#[]⟩,.string ⟨#[]⟩] [(0,1),(1,1),(2,1)]:=⟨fun parts out w h=>by simp [Instr.build,Tryz.zeroValue125,Tryz.runUnderlying125,Tryz.sizeOf4,Tryz.sizeOf9,Value.cells,h]⟩
instance:gZ Tryz.prog 137 4:=⟨Tryz.isAgg137,Tryz.sizeOf137⟩
instance:cP Tryz.prog 137 4:=⟨Tryz.sizeOf137⟩
instance:fW Tryz.prog 137 [.int .i64 0,.bool false,.string ⟨#[]⟩,.string ⟨#[]⟩]:=⟨fun w=>⟨_,Tryz.zeroValue137 w,rfl⟩⟩
instance:aV Tryz.prog 137 0 0:=aM (n:=1) Tryz.runUnderlying137 rfl Tryz.sizeOf3 dc rfl
instance:aV Tryz.prog 137 1 1:=aM (n:=3) Tryz.runUnderlying137 rfl Tryz.sizeOf25 dc rfl
instance:dN Tryz.prog 137 [.int .i64 0,.bool false,.string ⟨#[]⟩,.string ⟨#[]⟩] [(0,1),(1,3)]:=⟨fun parts out w h=>by simp [Instr.build,Tryz.zeroValue137,Tryz.runUnderlying137,Tryz.sizeOf25,Tryz.sizeOf3,Value.cells,h]⟩
instance:gZ Tryz.prog 151 2:=⟨Tryz.isAgg151,Tryz.sizeOf151⟩
instance:cP Tryz.prog 151 2:=⟨Tryz.sizeOf151⟩
instance:fW Tryz.prog 151 [.string ⟨#[]⟩,.int .i64 0]:=⟨fun w=>⟨_,Tryz.zeroValue151 w,rfl⟩⟩
instance:dN Tryz.prog 151 [.string ⟨#[]⟩,.int .i64 0] [(0,1),(1,1)]:=⟨fun parts out w h=>by simp [Instr.build,Tryz.zeroValue151,Tryz.runUnderlying151,Tryz.sizeOf39,Tryz.sizeOf9,Value.cells,h]⟩
instance:eV Tryz.prog 166:=⟨Tryz.isAgg166⟩
instance:cP Tryz.prog 166 1:=⟨Tryz.sizeOf166⟩
instance:fW Tryz.prog 166 [.nilFunc]:=⟨fun w=>⟨_,Tryz.zeroValue166 w,rfl⟩⟩
instance:bN Tryz.prog 168 206 1:=⟨Tryz.underlying168,Tryz.sizeOf206⟩
instance:cZ Tryz.prog 168 206 (.int .u32 0) 1 4:=⟨Tryz.underlying168,by kernel_rfl,rfl,by decide⟩
instance:gZ Tryz.prog 185 3:=⟨Tryz.isAgg185,Tryz.sizeOf185⟩
instance:cP Tryz.prog 185 3:=⟨Tryz.sizeOf185⟩
instance:fW Tryz.prog 185 [.string ⟨#[]⟩,.string ⟨#[]⟩,.int .i64 0]:=⟨fun w=>⟨_,Tryz.zeroValue185 w,rfl⟩⟩
instance:dN Tryz.prog 185 [.string ⟨#[]⟩,.string ⟨#[]⟩,.int .i64 0] [(0,1),(1,1),(2,1)]:=⟨fun parts out w h=>by simp [Instr.build,Tryz.zeroValue185,Tryz.runUnderlying185,Tryz.sizeOf39,Tryz.sizeOf9,Value.cells,h]⟩
instance:gZ Tryz.prog 192 2:=⟨Tryz.isAgg192,Tryz.sizeOf192⟩
instance:cP Tryz.prog 192 2:=⟨Tryz.sizeOf192⟩
instance:fW Tryz.prog 192 [.int .i64 0,.int .i64 0]:=⟨fun w=>⟨_,Tryz.zeroValue192 w,rfl⟩⟩
instance:O0 Tryz.prog 192:=⟨fun a b c d w=>by
 show (Op.equalIn (9999+1) 192 (.agg #[.int .i64 a,.int .i64 b]) (.agg #[.int .i64 c,.int .i64 d])).run Tryz.prog w=_
 rw [Op.equalIn];have e3:∀ x y:Int,∀ w,(Op.equalIn 9999 3 (.int .i64 x) (.int .i64 y)).run Tryz.prog w=.ok (x == y) w:=fun x y w=>run_equalIn_int w 9998 3 .i64 .i64 x y Tryz.underlying3
 simp [Tryz.runUnderlying192,Tryz.sizeOf3,part,Tryz.isAgg3,e3,List.range',Std.Legacy.Range.forIn_eq_forIn_range',Std.Legacy.Range.size];by_cases h1:a=c<;>by_cases h2:b=d<;>simp [h1,h2],by kernel_rfl⟩
instance:dN Tryz.prog 192 [.int .i64 0,.int .i64 0] [(0,1),(1,1)]:=HL Tryz.zeroValue192 Tryz.runUnderlying192 Tryz.sizeOf3 rfl dc
instance:eV Tryz.prog 197:=⟨Tryz.isAgg197⟩
instance:cP Tryz.prog 197 1:=⟨Tryz.sizeOf197⟩
instance:bN Tryz.prog 197 61 1:=⟨Tryz.underlying197,Tryz.sizeOf61⟩
instance:cZ Tryz.prog 197 61 (.slice none 0 0) 1 24:=⟨Tryz.underlying197,by kernel_rfl,rfl,by decide⟩
instance:eV Tryz.prog 198:=⟨Tryz.isAgg198⟩
instance:cP Tryz.prog 198 1:=⟨Tryz.sizeOf198⟩
instance:bN Tryz.prog 198 28 1:=⟨Tryz.underlying198,Tryz.sizeOf28⟩
instance:cZ Tryz.prog 198 28 (.slice none 0 0) 1 24:=⟨Tryz.underlying198,by kernel_rfl,rfl,by decide⟩
instance:aV Tryz.prog 200 1 5:=aM (n:=1) Tryz.runUnderlying200 rfl Tryz.sizeOf82 dc rfl
instance:aV Tryz.prog 200 2 6:=aM (n:=1) Tryz.runUnderlying200 rfl Tryz.sizeOf197 dc rfl
instance:aV Tryz.prog 200 3 7:=aM (n:=1) Tryz.runUnderlying200 rfl Tryz.sizeOf198 dc rfl
instance:dN Tryz.prog 200 [.int .i64 0,.int .i64 0,.slice none 0 0,.int .i64 0,.int .i64 0,.slice none 0 0,.slice none 0 0,.slice none 0 0] [(0,5),(5,1),(6,1),(7,1)]:=⟨fun parts out w h=>by simp [Instr.build,Tryz.zeroValue200,Tryz.runUnderlying200,Tryz.sizeOf197,Tryz.sizeOf198,Tryz.sizeOf67,Tryz.sizeOf82,Value.cells,h]⟩
instance:bN Tryz.prog 201 202 1:=⟨Tryz.underlying201,Tryz.sizeOf202⟩
instance:cZ Tryz.prog 201 202 (.map none) 1 8:=⟨Tryz.underlying201,by kernel_rfl,rfl,by decide⟩
instance:eV Tryz.prog 202:=⟨Tryz.isAgg202⟩
instance:cP Tryz.prog 202 1:=⟨Tryz.sizeOf202⟩
instance:eV Tryz.prog 206:=⟨Tryz.isAgg206⟩
instance:cP Tryz.prog 206 1:=⟨Tryz.sizeOf206⟩
instance:uB Tryz.prog 206 .u32:=⟨Tryz.underlying206⟩
instance:uB Tryz.prog 212 .u64:=⟨Tryz.underlying212⟩
instance:uB Tryz.prog 213 .u64:=⟨Tryz.underlying213⟩
instance:bN Tryz.prog 214 5 1:=⟨Tryz.underlying214,Tryz.sizeOf5⟩
instance:IY Tryz.prog 214 5:=⟨Tryz.underlying214,Tryz.underlying5⟩
instance:cZ Tryz.prog 214 5 (.int .u8 0) 1 1:=⟨Tryz.underlying214,by kernel_rfl,rfl,by decide⟩
instance:bN Tryz.prog 218 219 1:=⟨Tryz.underlying218,Tryz.sizeOf219⟩
instance:cZ Tryz.prog 218 219 (.slice none 0 0) 1 24:=⟨Tryz.underlying218,by kernel_rfl,rfl,by decide⟩
instance:eV Tryz.prog 219:=⟨Tryz.isAgg219⟩
instance:cP Tryz.prog 219 1:=⟨Tryz.sizeOf219⟩
instance:bN Tryz.prog 219 221 4:=⟨Tryz.underlying219,Tryz.sizeOf221⟩
instance:cZ Tryz.prog 219 221 (.agg #[.int .i64 0,.bool false,.string ⟨#[]⟩,.string ⟨#[]⟩]) 4 48:=⟨Tryz.underlying219,by kernel_rfl,rfl,by decide⟩
instance:gZ Tryz.prog 221 4:=⟨Tryz.isAgg221,Tryz.sizeOf221⟩
instance:cP Tryz.prog 221 4:=⟨Tryz.sizeOf221⟩
instance:fW Tryz.prog 221 [.int .i64 0,.bool false,.string ⟨#[]⟩,.string ⟨#[]⟩]:=⟨fun w=>⟨_,Tryz.zeroValue221 w,rfl⟩⟩
instance:aV Tryz.prog 221 0 0:=aM (n:=1) Tryz.runUnderlying221 rfl Tryz.sizeOf3 dc rfl
instance:aV Tryz.prog 221 1 1:=aM (n:=3) Tryz.runUnderlying221 rfl Tryz.sizeOf25 dc rfl
instance:dN Tryz.prog 221 [.int .i64 0,.bool false,.string ⟨#[]⟩,.string ⟨#[]⟩] [(0,1),(1,3)]:=⟨fun parts out w h=>by simp [Instr.build,Tryz.zeroValue221,Tryz.runUnderlying221,Tryz.sizeOf25,Tryz.sizeOf3,Value.cells,h]⟩
instance:Fun Tryz.prog 11:=⟨Tryz.call11⟩
instance:Fun Tryz.prog 13:=⟨Tryz.call13⟩
instance:Fun Tryz.prog 15:=⟨Tryz.call15⟩
instance:Fun Tryz.prog 17:=⟨Tryz.call17⟩
instance:Fun Tryz.prog 20:=⟨Tryz.call20⟩
instance:Fun Tryz.prog 21:=⟨Tryz.call21⟩
instance:Fun Tryz.prog 22:=⟨Tryz.call22⟩
instance:Fun Tryz.prog 24:=⟨Tryz.call24⟩
instance:Fun Tryz.prog 25:=⟨Tryz.call25⟩
instance:Fun Tryz.prog 26:=⟨Tryz.call26⟩
instance:Fun Tryz.prog 27:=⟨Tryz.call27⟩
instance:Fun Tryz.prog 28:=⟨Tryz.call28⟩
instance:Fun Tryz.prog 30:=⟨Tryz.call30⟩
instance:Fun Tryz.prog 33:=⟨Tryz.call33⟩
instance:Fun Tryz.prog 34:=⟨Tryz.call34⟩
instance:Fun Tryz.prog 35:=⟨Tryz.call35⟩
instance:Fun Tryz.prog 36:=⟨Tryz.call36⟩
instance:Fun Tryz.prog 37:=⟨Tryz.call37⟩
instance:Fun Tryz.prog 38:=⟨Tryz.call38⟩
instance:Fun Tryz.prog 39:=⟨Tryz.call39⟩
instance:Fun Tryz.prog 40:=⟨Tryz.call40⟩
instance:Fun Tryz.prog 41:=⟨Tryz.call41⟩
instance:Fun Tryz.prog 42:=⟨Tryz.call42⟩
instance:Fun Tryz.prog 43:=⟨Tryz.call43⟩
instance:Fun Tryz.prog 47:=⟨Tryz.call47⟩
instance:Fun Tryz.prog 51:=⟨Tryz.call51⟩
instance:Fun Tryz.prog 54:=⟨Tryz.call54⟩
instance:Fun Tryz.prog 55:=⟨Tryz.call55⟩
instance:Fun Tryz.prog 56:=⟨Tryz.call56⟩
instance:Fun Tryz.prog 57:=⟨Tryz.call57⟩
instance:Fun Tryz.prog 58:=⟨Tryz.call58⟩
instance:Fun Tryz.prog 59:=⟨Tryz.call59⟩
instance:Fun Tryz.prog 60:=⟨Tryz.call60⟩
instance:Fun Tryz.prog 61:=⟨Tryz.call61⟩
instance:Fun Tryz.prog 62:=⟨Tryz.call62⟩
instance:Fun Tryz.prog 63:=⟨Tryz.call63⟩
instance:Fun Tryz.prog 64:=⟨Tryz.call64⟩
instance:Fun Tryz.prog 65:=⟨Tryz.call65⟩
instance:Fun Tryz.prog 66:=⟨Tryz.call66⟩
instance:Fun Tryz.prog 67:=⟨Tryz.call67⟩
instance:Fun Tryz.prog 68:=⟨Tryz.call68⟩
instance:Fun Tryz.prog 69:=⟨Tryz.call69⟩
instance:Fun Tryz.prog 70:=⟨Tryz.call70⟩
instance:Fun Tryz.prog 73:=⟨Tryz.call73⟩
instance:Fun Tryz.prog 74:=⟨Tryz.call74⟩
instance:Fun Tryz.prog 75:=⟨Tryz.call75⟩
instance:Fun Tryz.prog 76:=⟨Tryz.call76⟩
instance:Fun Tryz.prog 77:=⟨Tryz.call77⟩
instance:Fun Tryz.prog 78:=⟨Tryz.call78⟩
instance:Fun Tryz.prog 79:=⟨Tryz.call79⟩
instance:Fun Tryz.prog 80:=⟨Tryz.call80⟩
instance:Fun Tryz.prog 81:=⟨Tryz.call81⟩
instance:Fun Tryz.prog 82:=⟨Tryz.call82⟩
instance:Fun Tryz.prog 83:=⟨Tryz.call83⟩
instance:Fun Tryz.prog 84:=⟨Tryz.call84⟩
instance:Fun Tryz.prog 86:=⟨Tryz.call86⟩
instance:Fun Tryz.prog 87:=⟨Tryz.call87⟩
instance:Fun Tryz.prog 88:=⟨Tryz.call88⟩
instance:Fun Tryz.prog 89:=⟨Tryz.call89⟩
instance:Fun Tryz.prog 90:=⟨Tryz.call90⟩
instance:Fun Tryz.prog 91:=⟨Tryz.call91⟩
instance:Fun Tryz.prog 92:=⟨Tryz.call92⟩
instance:Fun Tryz.prog 93:=⟨Tryz.call93⟩
instance:Fun Tryz.prog 99:=⟨Tryz.call99⟩
instance:Fun Tryz.prog 104:=⟨Tryz.call104⟩
instance:Fun Tryz.prog 105:=⟨Tryz.call105⟩
instance:Fun Tryz.prog 106:=⟨Tryz.call106⟩
instance:Fun Tryz.prog 107:=⟨Tryz.call107⟩
instance:Fun Tryz.prog 108:=⟨Tryz.call108⟩
instance:Fun Tryz.prog 109:=⟨Tryz.call109⟩
instance:Fun Tryz.prog 110:=⟨Tryz.call110⟩
instance:Fun Tryz.prog 111:=⟨Tryz.call111⟩
instance:Fun Tryz.prog 112:=⟨Tryz.call112⟩
instance:Fun Tryz.prog 113:=⟨Tryz.call113⟩
instance:Fun Tryz.prog 114:=⟨Tryz.call114⟩
instance:Fun Tryz.prog 115:=⟨Tryz.call115⟩
instance:Fun Tryz.prog 116:=⟨Tryz.call116⟩
instance:Fun Tryz.prog 117:=⟨Tryz.call117⟩
instance:Fun Tryz.prog 118:=⟨Tryz.call118⟩
instance:Fun Tryz.prog 119:=⟨Tryz.call119⟩
instance:Fun Tryz.prog 120:=⟨Tryz.call120⟩
instance:Fun Tryz.prog 121:=⟨Tryz.call121⟩
instance:Fun Tryz.prog 122:=⟨Tryz.call122⟩
instance:Fun Tryz.prog 123:=⟨Tryz.call123⟩
instance:Fun Tryz.prog 124:=⟨Tryz.call124⟩
instance:Fun Tryz.prog 125:=⟨Tryz.call125⟩
instance:Fun Tryz.prog 126:=⟨Tryz.call126⟩
instance:Fun Tryz.prog 127:=⟨Tryz.call127⟩
instance:Fun Tryz.prog 128:=⟨Tryz.call128⟩
instance:Fun Tryz.prog 129:=⟨Tryz.call129⟩
instance:Fun Tryz.prog 131:=⟨Tryz.call131⟩
instance:Fun Tryz.prog 132:=⟨Tryz.call132⟩
instance:Fun Tryz.prog 133:=⟨Tryz.call133⟩
instance:Fun Tryz.prog 134:=⟨Tryz.call134⟩
instance:Fun Tryz.prog 135:=⟨Tryz.call135⟩
instance:Fun Tryz.prog 136:=⟨Tryz.call136⟩
instance:Fun Tryz.prog 139:=⟨Tryz.call139⟩
instance:Fun Tryz.prog 141:=⟨Tryz.call141⟩
instance:Fun Tryz.prog 142:=⟨Tryz.call142⟩
instance:Fun Tryz.prog 143:=⟨Tryz.call143⟩
instance:Fun Tryz.prog 144:=⟨Tryz.call144⟩
instance:Fun Tryz.prog 145:=⟨Tryz.call145⟩
instance:Fun Tryz.prog 146:=⟨Tryz.call146⟩
instance:Fun Tryz.prog 147:=⟨Tryz.call147⟩
instance:Fun Tryz.prog 148:=⟨Tryz.call148⟩
instance:Fun Tryz.prog 149:=⟨Tryz.call149⟩
instance:Fun Tryz.prog 150:=⟨Tryz.call150⟩
instance:Fun Tryz.prog 151:=⟨Tryz.call151⟩
instance:Fun Tryz.prog 152:=⟨Tryz.call152⟩
instance:Fun Tryz.prog 153:=⟨Tryz.call153⟩
instance:Fun Tryz.prog 154:=⟨Tryz.call154⟩
instance:Fun Tryz.prog 155:=⟨Tryz.call155⟩
instance:Fun Tryz.prog 156:=⟨Tryz.call156⟩
instance:Fun Tryz.prog 157:=⟨Tryz.call157⟩
instance:Fun Tryz.prog 158:=⟨Tryz.call158⟩
instance:Fun Tryz.prog 159:=⟨Tryz.call159⟩
instance:Fun Tryz.prog 160:=⟨Tryz.call160⟩
instance:Fun Tryz.prog 161:=⟨Tryz.call161⟩
instance:Fun Tryz.prog 162:=⟨Tryz.call162⟩
instance:Fun Tryz.prog 167:=⟨Tryz.call167⟩
instance:Fun Tryz.prog 168:=⟨Tryz.call168⟩
instance:Fun Tryz.prog 169:=⟨Tryz.call169⟩
instance:Fun Tryz.prog 170:=⟨Tryz.call170⟩
instance:Fun Tryz.prog 171:=⟨Tryz.call171⟩
instance:Fun Tryz.prog 172:=⟨Tryz.call172⟩
instance:Fun Tryz.prog 173:=⟨Tryz.call173⟩
instance:Fun Tryz.prog 175:=⟨Tryz.call175⟩
instance:Fun Tryz.prog 176:=⟨Tryz.call176⟩
instance:Fun Tryz.prog 177:=⟨Tryz.call177⟩
instance:Fun Tryz.prog 181:=⟨Tryz.call181⟩
instance:Fun Tryz.prog 182:=⟨Tryz.call182⟩
instance:Fun Tryz.prog 186:=⟨Tryz.call186⟩
theorem Tryz.Pr:Tryz.prog.follows .mixedOrders=true:=by decide +kernel
end Go.Proofs
/-
 Digits of natural numbers to a base,the lowest one first;numbers of bytes,the highest one first.
-/
namespace Go.Num
def dgs (b n:Nat):List Nat:=if h:n=0∨b < 2 then [] else n % b::dgs b (n / b)
termination_by n
decreasing_by
 have:=Nat.div_lt_self (n:=n) (k:=b) om om;exact this
def vL (b:Nat):List Nat->Nat
 | []=>0
 | x::r=>x+b*vL b r
theorem cS (b:Nat):dgs b 0=[]:=by rw [dgs];simp
theorem iW {b n:Nat} (hb:2<=b) (hn:n≠0):dgs b n=n % b::dgs b (n / b):=by
 rw [dgs,dif_neg om]
theorem eF {b:Nat} (hb:2<=b) (n:Nat):vL b (dgs b n)=n:=by
 induction n using Nat.strongRecOn with
 | _ n ih =>
  by_cases hn:n=0
  ·subst hn;rw [cS];rfl
  ·rw [iW hb hn,vL,ih _ (Nat.div_lt_self om om)]
   exact Nat.mod_add_div n b
theorem eG {b:Nat} (hb:2<=b) (n:Nat):∀ x∈dgs b n,x < b:=by
 induction n using Nat.strongRecOn with
 | _ n ih =>
  by_cases hn:n=0
  ·subst hn;rw [cS];intro x hx;cases hx
  ·rw [iW hb hn]
   intro x hx;rcases List.mem_cons.1 hx with rfl|hx
   ·exact Nat.mod_lt _ om
   ·exact ih _ (Nat.div_lt_self om om) x hx
def dI:List Nat->List Nat
 | []=>[]
 | x::r=>if x=0/\dI r=[] then [] else x::dI r
theorem iX {b:Nat} (hb:2<=b):∀ l:List Nat,(∀ x∈l,x < b)->dI l=dgs b (vL b l)
 | [],_=>by rw [vL,cS];rfl
 | x::r,h=>by
  have hx:x < b:=h x (.head _);have ih:=iX hb r fun y hy=>h y (.tail _ hy)
  rw [dI,vL,ih];by_cases h0:x=0/\dgs b (vL b r)=[]
  ·obtain ⟨rfl,h1⟩:=h0
   rw [if_pos ⟨rfl,h1⟩]
   have:vL b r=0:=by
    have:=eF hb (vL b r);rw [h1] at this;exact this.symm
   rw [this];simp [cS]
  ·rw [if_neg h0]
   have hne:x+b*vL b r≠0:=fun e=>h0 ⟨by omega,by
    have:b*vL b r=0:=by omega
    rcases Nat.mul_eq_zero.1 this with h|h
    ·omega
    ·rw [h,cS]⟩
   rw [iW hb hne];have e1:(x+b*vL b r) % b=x:=by rw [Nat.add_mul_mod_self_left];exact Nat.mod_eq_of_lt hx
   have e2:(x+b*vL b r) / b=vL b r:=by rw [Nat.add_mul_div_left _ _ om,Nat.div_eq_of_lt hx];omega
   rw [e1,e2]
theorem fS (b:Nat):∀ l m:List Nat,vL b (l++m)=vL b l+b ^ l.length*vL b m
 | [],m=>by simp [vL]
 | x::r,m=>by
  rw [List.cons_append,vL,vL,fS b r m,List.length_cons,Nat.pow_succ];rw [Nat.mul_add,<- Nat.mul_assoc,Nat.mul_comm b (b ^ r.length)];omega
theorem fT {b:Nat} (hb:0 < b):∀ l:List Nat,(∀ x∈l,x < b)->vL b l < b ^ l.length
 | [],_=>by simp [vL]
 | x::r,h=>by
  have hx:x < b:=h x (.head _);have ih:=fT hb r fun y hy=>h y (.tail _ hy)
  rw [vL,List.length_cons,Nat.pow_succ,Nat.mul_comm (b ^ r.length) b]
  have:b*(vL b r+1)<=b*b ^ r.length:=Nat.mul_le_mul_left b ih;rw [Nat.mul_add] at this;omega
def vB (l:List UInt8):Nat:=l.foldl (fun a x=>256*a+x.toNat) 0
def nB (n:Nat):List UInt8:=((dgs 256 n).map UInt8.ofNat).reverse
theorem Jc:∀ (l:List UInt8) (a:Nat),l.foldl (fun a x=>256*a+x.toNat) a=a*256 ^ l.length+vB l
 | [],a=>by simp [vB]
 | x::r,a=>by
  have e:vB (x::r)=(256*0+x.toNat)*256 ^ r.length+vB r:=Jc r _;have e2:256*a*256 ^ r.length=a*(256 ^ r.length*256):=by rw [Nat.mul_comm 256 a,Nat.mul_assoc,Nat.mul_comm 256]
  rw [List.foldl_cons,Jc r,e,List.length_cons,Nat.pow_succ,Nat.add_mul,e2,Nat.mul_zero,Nat.zero_add,Nat.add_assoc]
theorem lC (l m:List UInt8):vB (l++m)=vB l*256 ^ m.length+vB m:=by
 rw [vB,List.foldl_append,Jc];rfl
theorem vW (l:List UInt8):vB l=vL 256 (l.reverse.map UInt8.toNat):=by
 induction l with
 | nil=>rfl
 | cons x r ih =>
  rw [List.reverse_cons,List.map_append,fS,<- ih]
  have:vB (x::r)=vB ([x]++r):=rfl;rw [this,lC];simp [vL,vB,Nat.mul_comm];omega
theorem fJ:nB 0=[]:=by simp [nB,cS]
theorem dL (n:Nat):vB (nB n)=n:=by
 rw [vW,nB,List.reverse_reverse,List.map_map]
 have:(dgs 256 n).map (UInt8.toNat ∘ UInt8.ofNat)=dgs 256 n:=by
  conv=>rhs;rw [<- List.map_id (dgs 256 n)]
  refine List.map_congr_left fun x hx=>?_
  have:=eG (b:=256) om n x hx;simp [UInt8.toNat_ofNat',Nat.mod_eq_of_lt this]
 rw [this,eF om]
theorem bT (b:Nat) (x:List Nat) (k:Nat):vL b (x.take (k+1))=vL b (x.take k)+b ^ k*x.getD k 0:=by
 by_cases h:k < x.length
 ·rw [List.take_add_one,gE h,fS,List.length_take,Nat.min_eq_left om]
  simp [vL,gD,gE h]
 ·rw [List.take_of_length_le om,List.take_of_length_le om,gD,List.getElem?_eq_none om]
  simp
theorem mW (b:Nat) (x:List Nat) (k:Nat):vL b x=vL b (x.take k)+b ^ (min k x.length)*vL b (x.drop k):=by
 conv=>lhs;rw [<- List.take_append_drop k x]
 rw [fS,List.length_take]
theorem bZ {b:Nat} (hb:0 < b) {x:List Nat} (h:∀ d∈x,d < b) (k:Nat):x.getD k 0 < b:=by
 rw [gD];by_cases hk:k < x.length
 ·rw [gE hk];exact h _ (gM hk)
 ·rw [List.getElem?_eq_none om];exact hb
theorem yK (b:Nat) (o:List Nat) (d:Nat):vL b (o++[d])=vL b o+b ^ o.length*d:=by
 rw [fS];simp [vL]
theorem uC {b:Nat}{o:List Nat}{d:Nat} (h:∀ x∈o,x < b) (hd:d < b):∀ x∈o++[d],x < b:=by
 intro x hx;rcases List.mem_append.1 hx with hx|hx
 ·exact h x hx
 ·have:x=d:=by simpa using hx
  omega
theorem BU {b:Nat} (hb:2<=b) {x y o:List Nat}{k c:Nat} (hk:o.length=k) (h:vL b o+b ^ k*c=vL b (x.take k)+vL b (y.take k)) :
  vL b (o++[(x.getD k 0+y.getD k 0+c) % b])+b ^ (k+1)*((x.getD k 0+y.getD k 0+c) / b)=vL b (x.take (k+1))+vL b (y.take (k+1)):=by
 have hs:=Nat.mod_add_div (x.getD k 0+y.getD k 0+c) b;rw [yK,bT,bT,hk,Nat.pow_succ,Nat.mul_assoc,Nat.add_assoc,<- Nat.mul_add,hs,Nat.mul_add,Nat.mul_add];omega
theorem zF {b:Nat} (hb:2<=b) {x y:List Nat}{k c:Nat} (hx:∀ d∈x,d < b) (hy:∀ d∈y,d < b) (hc:c<=1):(x.getD k 0+y.getD k 0+c) / b<=1:=by
 have h1:=bZ om hx k;have h2:=bZ om hy k
 have:(x.getD k 0+y.getD k 0+c) / b < 2:=Nat.div_lt_of_lt_mul om;omega
theorem El {b:Nat} (hb:2<=b) {x y o:List Nat}{c:Nat} (hx:∀ d∈x,d < b) (hy:∀ d∈y,d < b) (h:vL b o+b ^ (max x.length y.length+1)*c=vL b (x.take (max x.length y.length+1))+vL b (y.take (max x.length y.length+1))) :
  vL b o=vL b x+vL b y:=by
 rw [List.take_of_length_le om,List.take_of_length_le om] at h
 have h1:=fT (b:=b) om x hx;have h2:=fT (b:=b) om y hy;have h3:b ^ x.length<=b ^ (max x.length y.length):=Nat.pow_le_pow_right om om;have h4:b ^ y.length<=b ^ (max x.length y.length):=Nat.pow_le_pow_right om om;have h5:b ^ (max x.length y.length)*2<=b ^ (max x.length y.length+1):=by rw [Nat.pow_succ];exact Nat.mul_le_mul_left _ hb
 rcases Nat.eq_zero_or_pos c with rfl|hc
 ·omega
 ·have:b ^ (max x.length y.length+1)*1<=b ^ (max x.length y.length+1)*c:=Nat.mul_le_mul_left _ hc
  omega
theorem zG {b:Nat} (hb:2<=b) {x y o:List Nat}{k c:Nat} (hk:o.length=k) (hy:∀ d∈y,d < b) (hc:c<=1) (h:vL b o+vL b (y.take k)+b ^ k*c=vL b (x.take k)+b ^ k*(2*c)) (hx:x.getD k 0 < b) :
  ∃ d c':Nat,(x.getD k 0:Int)-y.getD k 0-c=(d:Int)-(b*c':Nat)/\d < b/\c'<=1/\vL b (o++[d])+vL b (y.take (k+1))=vL b (x.take (k+1))+b ^ (k+1)*c':=by
 have hy':=bZ om hy k;have h':vL b o+vL b (y.take k)=vL b (x.take k)+b ^ k*c:=by
  have:b ^ k*(2*c)=b ^ k*c+b ^ k*c:=by rw [show 2*c=c+c by omega,Nat.mul_add]
  omega
 by_cases hlt:x.getD k 0 < y.getD k 0+c
 ·refine ⟨x.getD k 0+b-y.getD k 0-c,1,by omega,by omega,Nat.le_refl _,?_⟩
  rw [yK,bT,bT,hk,Nat.pow_succ];have e:b ^ k*(x.getD k 0+b-y.getD k 0-c)+b ^ k*y.getD k 0+b ^ k*c=b ^ k*x.getD k 0+b ^ k*b*1:=by
   rw [<- Nat.mul_add,<- Nat.mul_add,Nat.mul_one,<- Nat.mul_add];congr 1;omega
  omega
 ·refine ⟨x.getD k 0-y.getD k 0-c,0,by omega,by omega,Nat.zero_le _,?_⟩
  rw [yK,bT,bT,hk];have e:b ^ k*(x.getD k 0-y.getD k 0-c)+b ^ k*y.getD k 0+b ^ k*c=b ^ k*x.getD k 0:=by
   rw [<- Nat.mul_add,<- Nat.mul_add];congr 1;omega
  omega
theorem BV {b:Nat} (hb:2<=b) {x y o:List Nat}{c:Nat} (hx:∀ d∈x,d < b) (ho:∀ d∈o,d < b) (hl:o.length=x.length) (hle:vL b y<=vL b x) (h:vL b o+vL b (y.take x.length)=vL b x+b ^ x.length*c) :
  vL b o=vL b x-vL b y:=by
 have h1:=fT (b:=b) om x hx;have h2:=fT (b:=b) om o ho;rw [hl] at h2;have h3:=mW b y x.length;have h4:vL b (y.take x.length)=vL b y:=by
  rcases Nat.lt_or_ge x.length y.length with hlt|hge
  ·rw [Nat.min_eq_left om] at h3
   rcases Nat.eq_zero_or_pos (vL b (y.drop x.length)) with h0|h0
   ·rw [h0] at h3;omega
   ·have:b ^ x.length*1<=b ^ x.length*vL b (y.drop x.length):=Nat.mul_le_mul_left _ h0
    omega
  ·rw [List.take_of_length_le hge]
 rcases Nat.eq_zero_or_pos c with rfl|hc
 ·omega
 ·have:b ^ x.length*1<=b ^ x.length*c:=Nat.mul_le_mul_left _ hc
  omega
theorem Fu (b:Nat):∀ (l:List Nat) (j v:Nat),j < l.length->vL b (l.set j v)+b ^ j*l.getD j 0=vL b l+b ^ j*v
 | [],j,v,h=>absurd h (by simp)
 | x::r,0,v,_=>by simp [vL];omega
 | x::r,j+1,v,h=>by
  have ih:=Fu b r j v (by simpa using h)
  have e:b*vL b (r.set j v)+b*(b ^ j*r.getD j 0)=b*vL b r+b*(b ^ j*v):=by rw [<- Nat.mul_add,ih,Nat.mul_add]
  simp only [List.set_cons_succ,vL,List.getD_cons_succ,Nat.pow_succ];rw [Nat.mul_comm (b ^ j) b,Nat.mul_assoc,Nat.mul_assoc];omega
theorem zH {b:Nat}{o y:List Nat}{a i k c z:Nat} (hik:i+k < o.length) (h:vL b o+b ^ (i+k)*c=z+a*b ^ i*vL b (y.take k)) :
  vL b (o.set (i+k) ((a*y.getD k 0+o.getD (i+k) 0+c) % b))+b ^ (i+(k+1))*((a*y.getD k 0+o.getD (i+k) 0+c) / b)=z+a*b ^ i*vL b (y.take (k+1)):=by
 have hs:=Nat.mod_add_div (a*y.getD k 0+o.getD (i+k) 0+c) b;have h2:=Fu b o (i+k) ((a*y.getD k 0+o.getD (i+k) 0+c) % b) hik;have e1:b ^ (i+(k+1))=b ^ (i+k)*b:=by rw [<- Nat.add_assoc,Nat.pow_succ]
 have e2:a*b ^ i*(b ^ k*y.getD k 0)=b ^ (i+k)*(a*y.getD k 0):=by
  rw [Nat.pow_add,Nat.mul_comm a,Nat.mul_assoc,Nat.mul_assoc,Nat.mul_left_comm a]
 rw [bT,e1,Nat.mul_add,e2,Nat.mul_assoc];have e3:b ^ (i+k)*((a*y.getD k 0+o.getD (i+k) 0+c) % b)+b ^ (i+k)*(b*((a*y.getD k 0+o.getD (i+k) 0+c) / b))=b ^ (i+k)*(a*y.getD k 0)+b ^ (i+k)*o.getD (i+k) 0+b ^ (i+k)*c:=by
  rw [<- Nat.mul_add,hs,Nat.mul_add,Nat.mul_add]
 omega
theorem xH {b a u v c:Nat} (ha:a < b) (hu:u < b) (hv:v < b) (hc:c < b):(a*u+v+c) / b < b:=by
 apply Nat.div_lt_of_lt_mul;have h1:a*u<=(b-1)*(b-1):=Nat.mul_le_mul om om;obtain ⟨m,rfl⟩:∃ m,b=m+1:=⟨b-1,by omega⟩
 simp only [Nat.add_sub_cancel] at h1;rw [Nat.add_mul,Nat.mul_add];omega
theorem Fv {b d x q r v w:Nat} (hr:r < d) (hx:x < b) (h:d*q+r=v) (hw:w=x+b*v):(r*b+x) / d < b/\(r*b+x) % d < d/\d*((r*b+x) / d+b*q)+(r*b+x) % d=w:=by
 refine ⟨Nat.div_lt_of_lt_mul ?_,Nat.mod_lt _ om,?_⟩
 ·have:(r+1)*b<=d*b:=Nat.mul_le_mul_right _ hr
  rw [Nat.add_mul,Nat.one_mul] at this;omega
 ·have hs:=Nat.mod_add_div (r*b+x) d
  subst hw;subst h;rw [Nat.mul_add,Nat.mul_add b,Nat.mul_left_comm b,Nat.mul_comm b r,Nat.mul_left_comm d];omega
theorem gF {b:Nat} (hb:2<=b):∀ (k n:Nat),n < b ^ k->(dgs b n).length<=k
 | 0,n,h=>by
  have:n=0:=by simpa using h
  subst this;rw [cS];exact Nat.le_refl _
 | k+1,n,h=>by
  by_cases hn:n=0
  ·subst hn;rw [cS];exact Nat.zero_le _
  ·rw [iW hb hn,List.length_cons]
   have:=gF hb k (n / b) (Nat.div_lt_of_lt_mul (by rw [Nat.pow_succ,Nat.mul_comm] at h;exact h))
   omega
theorem vX {b:Nat} (hb:2<=b) (n:Nat) (h:n≠0):b ^ ((dgs b n).length-1)<=n:=by
 rcases Nat.lt_or_ge n (b ^ ((dgs b n).length-1)) with h1|h1
 ·have:=gF hb _ n h1
  have h2:(dgs b n).length≠0:=by rw [iW hb h];simp
  omega
 ·exact h1
theorem sZ {b:Nat} (hb:2<=b) {m n:Nat} (h:(dgs b m).length < (dgs b n).length):m < n:=by
 have hn:n≠0:=fun e=>by subst e;rw [cS] at h;exact absurd h (by simp)
 have h1:=vX hb n hn;have h2:=fT (b:=b) om (dgs b m) (eG hb m);rw [eF hb] at h2;have h3:b ^ (dgs b m).length<=b ^ ((dgs b n).length-1):=Nat.pow_le_pow_right om om;omega
theorem dA {b:Nat} (hb:2<=b) {m n:Nat} (h:m<=n):(dgs b m).length<=(dgs b n).length:=by
 rcases Nat.lt_or_ge (dgs b n).length (dgs b m).length with h1|h1
 ·have:=sZ hb h1;omega
 ·exact h1
theorem gG {b:Nat}{x:List Nat}{k:Nat} (h:k < x.length):vL b (x.drop k)=x.getD k 0+b*vL b (x.drop (k+1)):=by
 rw [List.drop_eq_getElem_cons h,vL,gD,gE h];rfl
theorem GK {b:Nat} (hb:2<=b) {x y:List Nat}{k:Nat} (hx:∀ d∈x,d < b) (hl:x.length=y.length) (hk:k < x.length) (h:vL b (x.drop (k+1))=vL b (y.drop (k+1))) (hlt:x.getD k 0 < y.getD k 0):vL b x < vL b y:=by
 have h1:=mW b x k;have h2:=mW b y k;rw [Nat.min_eq_left om] at h1 h2;rw [gG hk] at h1;rw [gG om,<- h] at h2;have h3:=fT (b:=b) om (x.take k) fun d hd=>hx d (List.mem_of_mem_take hd)
 rw [List.length_take,Nat.min_eq_left om] at h3;have h4:b ^ k*(x.getD k 0+1+b*vL b (x.drop (k+1)))<=b ^ k*(y.getD k 0+b*vL b (x.drop (k+1))):=Nat.mul_le_mul_left _ om;rw [Nat.mul_add,Nat.mul_add,Nat.mul_one] at h4;rw [Nat.mul_add] at h1 h2 h4;omega
theorem Nn {V R q t v p:Nat} (hV:v*p<=V) (hR:R < (t+1)*p) (hq:q*V<=R):q*v<=t:=by
 have h1:q*(v*p)<=q*V:=Nat.mul_le_mul_left _ hV;have h2:q*v*p < (t+1)*p:=by rw [Nat.mul_assoc];omega
 have:=Nat.lt_of_mul_lt_mul_right h2;omega
theorem HQ {b V R g t v u l r p:Nat} (hV:(v*b+u)*p<=V) (hR:R < (t*b+r+1)*p) (hl:l+g*v=t) (hg:l*b+r < g*u):R < g*V:=by
 have h1:g*((v*b+u)*p)<=g*V:=Nat.mul_le_mul_left _ hV;have h2:(t*b+r+1)<=g*(v*b+u):=by
  subst hl;rw [Nat.mul_add,Nat.add_mul,<- Nat.mul_assoc];omega
 have h3:=Nat.mul_le_mul_right p h2;rw [Nat.mul_assoc] at h3;omega
theorem Ls {V R g q:Nat} (hq:q=R / V) (hV:0 < V) (h:R < g*V):q < g:=by
 subst hq;exact (Nat.div_lt_iff_lt_mul hV).2 h
theorem tA:∀ (m:List Nat),m≠[]->m.getLast?≠some 0->dI m=m
 | [],h,_=>absurd rfl h
 | [x],_,h=>by
  have:x≠0:=fun e=>h (by rw [e];rfl)
  simp [dI,this]
 | x::y::r,_,h=>by
  have ih:=tA (y::r) (by simp) (by simpa [List.getLast?_cons_cons] using h)
  rw [dI,if_neg (by rw [ih];simp),ih]
theorem zI {x:UInt8}{r:List UInt8} (hx:x≠0):nB (vB (x::r))=x::r:=by
 have hlt:∀ d∈(x::r).reverse.map UInt8.toNat,d < 256:=fun d hd=>by
  obtain ⟨y,_,rfl⟩:=List.mem_map.1 hd;exact y.toNat_lt
 rw [nB,vW,<- iX om _ hlt,tA]
 ·rw [List.map_map]
  have:(UInt8.ofNat ∘ UInt8.toNat)=id:=by funext y;simp
  rw [this];simp
 ·simp
 ·rw [List.getLast?_map,List.getLast?_reverse]
  simp only [List.head?_cons,Option.map_some,ne_eq,Option.some.injEq];intro e;exact hx (UInt8.toNat_inj.1 (by simpa using e))
theorem mX:∀ l:List UInt8,l.dropWhile (· == 0)=nB (vB l)
 | []=>by simp [vB,fJ]
 | x::r=>by
  by_cases hx:x=0
  ·subst hx
   have e:vB (0::r)=vB r:=by show vB ([0]++r)=_;rw [lC];simp [vB]
   rw [e,<- mX r];simp
  ·rw [zI hx]
   simp [hx]
theorem iY {n k:Nat} (h:n < 256 ^ k):(nB n).length<=k:=by
 rw [nB,List.length_reverse,List.length_map];exact gF om k n h
theorem uD (l:List UInt8):vB l < 256 ^ l.length:=by
 rw [vW];have:=fT (b:=256) om (l.reverse.map UInt8.toNat) fun d hd=>by
  obtain ⟨y,_,rfl⟩:=List.mem_map.1 hd;exact y.toNat_lt
 simpa using this
theorem CL {m n:Nat} (h:nB m=nB n):m=n:=by rw [<- dL m,h,dL]
theorem Lt (n:Nat):(nB n).head?≠some 0:=by
 intro h;have h1:=mX (nB n);rw [dL] at h1;cases hn:nB n with
 | nil=>rw [hn] at h;cases h
 | cons x r =>
  rw [hn] at h h1
  have:x=0:=by simpa using h
  subst this;have h2:=congrArg List.length h1;have h3:=(List.dropWhile_sublist (fun x:UInt8=>x == 0) (l:=r)).length_le
  simp at h2;omega
def sg (s:Bool) (n:Nat):Int:=if s then -(n:Int) else n
theorem Jd (s:Bool) (n:Nat):(sg s n).natAbs=n:=by cases s<;>simp [sg]
def ofF (s:Bool) (n d:Nat):Rat:=mkRat (sg s n) d
structure Q3 where
 neg:Bool
 num:List UInt8
 den:List UInt8
 deriving DecidableEq
def aY:Q3:=⟨false,[],[]⟩
def aP (a:Q3):Prop:=a=aY∨(a.num≠[]/\a.den≠[]/\nB (vB a.num)=a.num/\nB (vB a.den)=a.den/\Nat.gcd (vB a.num) (vB a.den)=1)
instance (a:Q3):Decidable (aP a):=by unfold aP;exact inferInstance
def qR (a:Q3):Rat:=if aP a then (if a.num=[] then 0 else ofF a.neg (vB a.num) (vB a.den)) else 0
def rQ (q:Rat):Q3:=if q.num=0 then aY else ⟨decide (q.num < 0),nB q.num.natAbs,nB q.den⟩
theorem lJ {n:Nat}:nB n=[] ↔ n=0:=⟨fun h=>CL (h.trans fJ.symm),fun h=>by rw [h,fJ]⟩
theorem Fw {l:List UInt8} (h:l≠[]) (hc:nB (vB l)=l):vB l≠0:=fun e=>h (by rw [<- hc,e,fJ])
theorem zJ (q:Rat):aP (rQ q):=by
 rw [rQ];split
 ·exact .inl rfl
 ·rename_i h
  refine .inr ⟨?_,?_,?_,?_,?_⟩
  ·exact fun e=>h (Int.natAbs_eq_zero.1 (lJ.1 e))
  ·exact fun e=>q.den_nz (lJ.1 e)
  ·dsimp only;rw [dL]
  ·dsimp only;rw [dL]
  ·dsimp only;rw [dL,dL];exact q.reduced
theorem CM (n:Int):sg (decide (n < 0)) n.natAbs=n:=by
 rw [sg];by_cases h:n < 0
 ·rw [dT h,if_pos rfl];omega
 ·rw [dF h,if_neg dc];omega
theorem bR (q:Rat):qR (rQ q)=q:=by
 rw [qR,if_pos (zJ q),rQ];split
 ·rename_i h
  rw [if_pos (show aY.num=[] from rfl)]
  exact (Rat.num_eq_zero.1 h).symm
 ·rename_i h
  rw [if_neg (fun e=>h (Int.natAbs_eq_zero.1 (lJ.1 e))),ofF]
  dsimp only;rw [dL,dL,CM,Rat.mkRat_self]
theorem GL {s:Bool}{n d:Nat} (hd:d≠0):(ofF s n d).num=sg s (n / Nat.gcd n d)/\(ofF s n d).den=d / Nat.gcd n d:=by
 rw [ofF,Rat.num_mkRat,Rat.den_mkRat,if_neg hd,if_neg hd,Jd,Nat.gcd_comm d n];refine ⟨?_,rfl⟩;cases s
 ·simp [sg]
 ·simp only [sg,if_true]
  have:((Nat.gcd n d:Nat):Int) ∣ (n:Int):=Int.natCast_dvd_natCast.2 (Nat.gcd_dvd_left n d);rw [Int.neg_ediv_of_dvd this];simp
theorem CN {s:Bool}{n d:Nat} (hd:d≠0):rQ (ofF s n d)=if n=0 then aY else ⟨s,nB (n / Nat.gcd n d),nB (d / Nat.gcd n d)⟩:=by
 obtain ⟨h1,h2⟩:=GL (s:=s) (n:=n) hd;rw [rQ,h1,h2];by_cases hn:n=0
 ·subst hn
  rw [if_pos rfl,if_pos (by cases s<;>simp [sg])]
 ·have hg:0 < Nat.gcd n d:=Nat.gcd_pos_of_pos_right _ om
  have hq:n / Nat.gcd n d≠0:=by
   have:=Nat.div_pos (Nat.le_of_dvd om (Nat.gcd_dvd_left n d)) hg;omega
  rw [if_neg hn];generalize n / Nat.gcd n d=u at *;rw [if_neg,Jd]
  ·congr 1
   cases s
   ·simp [sg]
   ·simp [sg];omega
  ·cases s
   ·simp only [sg];simp;omega
   ·simp only [sg];simp;omega
theorem Je {a:Q3} (h:aP a):rQ (qR a)=a:=by
 rw [qR,if_pos h];rcases h with rfl|⟨h1,h2,h3,h4,h5⟩
 ·rfl
 ·rw [if_neg h1,CN (Fw h2 h4),if_neg (Fw h1 h3),h5,Nat.div_one,Nat.div_one,h3,h4]
theorem zK {s t:Bool}{n d m e:Nat} (hd:d≠0) (he:e≠0):ofF s n d+ofF t m e=mkRat (sg s (n*e)+sg t (m*d)) (d*e):=by
 rw [ofF,ofF,Rat.mkRat_add_mkRat _ _ hd he];congr 1;cases s<;>cases t<;>simp [sg]<;>simp [Int.neg_mul]
theorem Jf {s:Bool}{n d m e:Nat} (hd:d≠0) (he:e≠0):ofF s n d+ofF s m e=ofF s (n*e+m*d) (d*e):=by
 rw [zK hd he,ofF];congr 1;cases s<;>simp [sg];omega
theorem Np {s:Bool}{n d m e:Nat} (hd:d≠0) (he:e≠0) (h:m*d<=n*e):ofF s n d+ofF (!s) m e=ofF s (n*e-m*d) (d*e):=by
 rw [zK hd he,ofF];congr 1;cases s<;>simp only [sg]<;>simp<;>omega
theorem Nq {s:Bool}{n d m e:Nat} (hd:d≠0) (he:e≠0) (h:n*e<=m*d):ofF s n d+ofF (!s) m e=ofF (!s) (m*d-n*e) (d*e):=by
 rw [zK hd he,ofF];congr 1;cases s<;>simp only [sg]<;>simp<;>omega
theorem mY (s t:Bool) (n d m e:Nat):ofF s n d*ofF t m e=ofF (s != t) (n*m) (d*e):=by
 rw [ofF,ofF,Rat.mkRat_mul_mkRat,ofF];congr 1;cases s<;>cases t<;>simp [sg,Int.neg_mul,Int.mul_neg]
theorem CO (s:Bool) (n d:Nat):-ofF s n d=ofF (!s) n d:=by
 rw [ofF,Rat.neg_mkRat,ofF];congr 1;cases s<;>simp [sg]
theorem Jg (s:Bool) (d:Nat):ofF s 0 d=0:=by
 rw [ofF];cases s<;>simp [sg]
def lK (s:Bool) (n d:Nat) (t:Bool) (m e:Nat):Bool×Nat×Nat :=
 if s=t then (s,n*e+m*d,d*e) else if n*e < m*d then (t,m*d-n*e,d*e) else (s,n*e-m*d,d*e)
theorem mZ {s t:Bool}{n d m e:Nat} (hd:d≠0) (he:e≠0):ofF (lK s n d t m e).1 (lK s n d t m e).2.1 (lK s n d t m e).2.2=ofF s n d+ofF t m e/\(lK s n d t m e).2.2≠0:=by
 have hde:d*e≠0:=Nat.mul_ne_zero hd he;rw [lK];by_cases h:s=t
 ·subst h
  rw [if_pos rfl];exact ⟨(Jf hd he).symm,hde⟩
 ·rw [if_neg h]
  have ht:t=!s:=by cases s<;>cases t<;>simp_all
  subst ht;by_cases h2:n*e < m*d
  ·rw [if_pos h2]
   exact ⟨(Nq hd he om).symm,hde⟩
  ·rw [if_neg h2]
   exact ⟨(Np hd he om).symm,hde⟩
theorem HR {s:Bool}{n:Nat}:sg s n < 0 ↔ s=true/\n≠0:=by
 cases s<;>simp [sg]<;>omega
theorem xI {s:Bool}{n d:Nat} (hd:d≠0):ofF s n d=0 ↔ n=0:=by
 rw [ofF,<- Rat.zero_mkRat d,Rat.mkRat_eq_iff hd hd];constructor
 ·intro h
  have h2:sg s n=0:=by
   rw [Int.zero_mul] at h
   rcases Int.mul_eq_zero.1 h with h|h
   ·exact h
   ·exact absurd (Int.natCast_eq_zero.1 h) hd
  cases s<;>simp [sg] at h2<;>omega
 ·rintro rfl
  cases s<;>simp [sg]
theorem xJ {s:Bool}{n d:Nat} (hd:d≠0):ofF s n d < 0 ↔ s=true/\n≠0:=by
 rw [<- Rat.not_le,<- Rat.num_nonneg,Int.not_le,(GL hd).1,HR];have hg:0 < Nat.gcd n d:=Nat.gcd_pos_of_pos_right _ om;constructor
 ·rintro ⟨h1,h2⟩
  exact ⟨h1,fun e=>h2 (by rw [e];simp)⟩
 ·rintro ⟨h1,h2⟩
  refine ⟨h1,fun e=>h2 ?_⟩
  have:=Nat.div_mul_cancel (Nat.gcd_dvd_left n d);rw [e] at this;omega
def dR (q:Rat):Int:=if q=0 then 0 else if q < 0 then -1 else 1
theorem Lu {s:Bool}{n d:Nat} (hd:d≠0):dR (ofF s n d)=if n=0 then 0 else if s=true then -1 else 1:=by
 rw [dR];by_cases hn:n=0
 ·rw [if_pos ((xI hd).2 hn),if_pos hn]
 ·rw [if_neg (fun e=>hn ((xI hd).1 e)),if_neg hn]
  by_cases hs:s=true
  ·rw [if_pos ((xJ hd).2 ⟨hs,hn⟩),if_pos hs]
  ·rw [if_neg (fun e=>hs ((xJ hd).1 e).1),if_neg hs]
theorem CP {a b:Rat}:dR (a-b)<=0 ↔ a<=b:=by
 rw [dR];split
 ·constructor
  ·intro _;grind
  ·intro _;omega
 ·split
  ·constructor
   ·intro _;grind
   ·intro _;omega
  ·constructor
   ·intro h;omega
   ·intro h;exfalso;grind
def bE (a:Q3):Bool×Nat×Nat:=if aP a/\a.num≠[] then (a.neg,vB a.num,vB a.den) else (false,0,1)
theorem eK (a:Q3):ofF (bE a).1 (bE a).2.1 (bE a).2.2=qR a/\(bE a).2.2≠0:=by
 rw [bE];by_cases h:aP a/\a.num≠[]
 ·rw [if_pos h,qR,if_pos h.1,if_neg h.2]
  refine ⟨rfl,?_⟩;rcases h.1 with e|⟨h1,h2,h3,h4,h5⟩
  ·exact absurd (by rw [e];rfl) h.2
  ·exact Fw h2 h4
 ·rw [if_neg h]
  refine ⟨?_,by simp⟩
  rw [Jg,qR];split
  ·rename_i h1
   rw [if_pos (Decidable.not_not.1 fun h2=>h ⟨h1,h2⟩)]
  ·rfl
end Go.Num
/-
 Fields of struct values.
-/
namespace Go.Sl
open Go.RowKit
variable {C:Ctx}{st:List (Nat×Value)}{M:List Row}{k:List Item}{q q':Md}{all rest:List Oper}{d:Nat}{opn:Op}{ty:TypeId}{pos:String}{after:Array Edge}{gd:Option (Nat×Bool)}
def Jh (cs:List Value) (off n:Nat) (ag:Bool):Option Value :=
 match ag with
 | true=>some (.agg ((cs.drop off).take n).toArray)
 | false=>cs[off]?
class xK (P:Program) (T f:Nat) (off n:outParam Nat) (ag:outParam Bool):Prop where
 h:∀ (cs:List Value) v w,Jh cs off n ag=some v->(Instr.field T (.agg cs.toArray) f).run P w=.ok v w
theorem uE {P:Program}{T f off:Nat}{fields:Array Field}{fd:Field} (hu:∀ w,(underlying T).run P w=.ok (.struct fields) w) (hf:fields[f]?=some fd) (ha:∀ w,(isAgg fd.type).run P w=.ok false w) (ho:fd.offset=off):xK P T f off 1 false :=
 ⟨fun cs v w h=>by
  subst ho;have h':cs[fd.offset]?=some v:=h;simp [Instr.field,hu,hf,part,ha,asAgg,h']⟩
theorem G.fd {T f off n:Nat}{ag:Bool}{x:Operand}{cs:List Value}{v:Value} (hx:evS st x=some (.agg cs.toArray)) [hT:xK C.P T f off n ag] (hv:Jh cs off n ag=some v) (hs:bA all st gd d C.N q.calm=some q') (h:G q' C all ((d,v)::st) M rest k) :
  G q C all st M ({ dst:=some d,op:=.field T x f,type:=ty,pos,after,guard:=gd }::rest) k:=by
 obtain ⟨g1,g2,g3⟩:=aJ hs;exact G.op (OpV.of fun ac w hf _ dst pos after guard=>by simp [execOp,hf.eval hx,hT.h cs v w hv]) g1 rfl g2 g3 h
end Go.Sl
/-
 Structs of a bool and two strings that are compared;bools that are compared;calls of method values.
-/
namespace Go.Sl
open Go.RowKit Go.Num
variable {C:Ctx}{st:List (Nat×Value)}{M:List Row}{k:List Item}{q q':Md}{all rest:List Oper}{d:Nat}{opn:Op}{ty:TypeId}{pos:String}{after:Array Edge}{gd:Option (Nat×Bool)}
def qV (a:Q3):List Value:=[.bool a.neg,.string (bs a.num),.string (bs a.den)]
abbrev qA (a:Q3):Value:=.agg #[.bool a.neg,.string (bs a.num),.string (bs a.den)]
class Ji (P:Program) (T:TypeId):Prop where
 h:∀ (a b:Bool) (x y u v:ByteArray) w,(Op.equal T (.agg #[.bool a,.string x,.string u]) (.agg #[.bool b,.string y,.string v])).run P w=.ok (a == b && (x.toList == y.toList && u.toList == v.toList)) w
 g:P.eqGuardType P.depth T=false
theorem pM (a b:Q3):(a.neg == b.neg && ((bs a.num).toList == (bs b.num).toList && (bs a.den).toList == (bs b.den).toList))=decide (a=b):=by
 obtain ⟨s,n,d⟩:=a;obtain ⟨t,m,e⟩:=b;simp only [jO];rw [Bool.eq_iff_iff];simp
theorem tB {P:Program}{T:TypeId} [hT:Ji P T] (bop:BinOp) (x y:Operand) (xs ys:Array Value) (w:World):(eqGuard bop T x y (.agg xs) (.agg ys)).run P w=.ok () w:=run_eqGuard_agg w bop T x y xs ys hT.g
theorem G.PK {T:TypeId}{x y:Operand}{yt:TypeId} (a b:Q3) (hx:evS st x=some (qA a)) (hy:evS st y=some (qA b)) [hT:Ji C.P T] (hs:bA all st gd d C.N q.calm=some q') (h1:a=b->G q' C all ((d,.bool true)::st) M rest k) (h2:a≠b->G q' C all ((d,.bool false)::st) M rest k) :
  G q C all st M ({ dst:=some d,op:=.binOp .eql T x y yt,type:=ty,pos,after,guard:=gd }::rest) k:=by
 obtain ⟨g1,g2,g3⟩:=aJ hs;refine G.PC (p:=a=b) (OpV.of fun ac w hf _ dst pos after guard=>?_) g1 rfl g2 g3 h1 h2
 have e:(binOp .eql T (qA a) (qA b)).run C.P w=.ok (.bool (decide (a=b))) w:=by
  show ((Op.equal T _ _).bind fun b=>Sem.pure (Value.bool b)).run C.P w=_
  rw [Sem.run_bind',hT.h,pM];rfl
 simp only [execOp,hf.eval hx,hf.eval hy,Sem.run_bind,tB,e,Result.andThen_ok];rfl
theorem G.beq {T:TypeId}{x y:Operand}{yt:TypeId}{a b:Bool} (hx:evS st x=some (.bool a)) (hy:evS st y=some (.bool b)) [hT:GI C.P T] (hs:bA all st gd d C.N q.calm=some q') (h:G q' C all ((d,.bool (a == b))::st) M rest k) :
  G q C all st M ({ dst:=some d,op:=.binOp .eql T x y yt,type:=ty,pos,after,guard:=gd }::rest) k:=by
 obtain ⟨g1,g2,g3⟩:=aJ hs;exact G.op (OpV.Rb hx hy) g1 rfl g2 g3 h
theorem G.P9 {T:TypeId}{x y:Operand}{yt:TypeId}{a b:Bool} (hx:evS st x=some (.bool a)) (hy:evS st y=some (.bool b)) [hT:GI C.P T] (hs:bA all st gd d C.N q.calm=some q') (h:G q' C all ((d,.bool (a != b))::st) M rest k) :
  G q C all st M ({ dst:=some d,op:=.binOp .neq T x y yt,type:=ty,pos,after,guard:=gd }::rest) k:=by
 obtain ⟨g1,g2,g3⟩:=aJ hs;refine G.op (OpV.of fun ac w hf _ dst pos after guard=>?_) g1 rfl g2 g3 h
 have hg:(eqGuard .neq T x y (.bool a) (.bool b)).run C.P w=.ok () w:=by rfl
 have e:(binOp .neq T (.bool a) (.bool b)).run C.P w=.ok (.bool (a != b)) w:=by
  show ((Op.equal T _ _).bind fun b=>Sem.pure (Value.bool (!b))).run C.P w=_
  rw [Sem.run_bind',run_equal_bool _ _ _ _ hT.h];rfl
 simp only [execOp,hf.eval hx,hf.eval hy,Sem.run_bind,hg,e,Result.andThen_ok];rfl
theorem HS {P:Program}{w:World}{g:FuncId} [hF:Fun P g] {a:Act}{f:Operand}{args:List Operand}{first:Array Value}{vs:List Value}{at_:Array TypeId}{dst:Option Tmp}{guard:Option (Nat×Bool)}
  (hf:a.eval f=.func (.func g) first #[]) (ha:args.map a.eval=vs):(execOp a.eval ⟨dst,.call { callee:=.value f,args:=args.toArray,argTypes:=at_ },ty,pos,after,guard⟩).run P w=.ok (.enter g (first++vs.toArray)) w:=by
 subst ha;simp [execOp,resolve,hf,Deferred.ofValue,invoke,hF.h]
theorem G.RC {g:FuncId}{f:Operand}{first:Array Value}{args:List Operand}{vs:List Value}{at_:Array TypeId}{v:Value} (hf:evS st f=some (.func (.func g) first #[])) (ha:evL st args=some vs) (hs:bA all st gd d C.N q.calm=some q') [hF:Fun C.P g]
  (hc:∀ w,Sat C.w0 (q.cls M) w->Calls C.P g (first++vs.toArray) w fun e w'=>e=.returned v/\Below w.heap.size w w') (h:G q' C all ((d,v)::st) M rest k) :
  G q C all st M ({ dst:=some d,op:=.call { callee:=.value f,args:=args.toArray,argTypes:=at_ },type:=ty,pos,after,guard:=gd }::rest) k:=by
 obtain ⟨g1,g2,g3⟩:=aJ hs;exact G.op (.mk fun a w hfit hw dst pos after guard=>.inr ⟨g,first++vs.toArray,HS (hfit.eval hf) (hfit.evals ha),hc w hw⟩) g1 rfl g2 g3 h
def pqr (i:Nat):Nat->Pt
 | 0=>.r i .nil
 | n+1=>.q i (pqr (i+1) n)
theorem J.P4 {id:Nat}{l:List Oper} (hm:C.P.follows .mixedOrders=true)
  (hB:(decide ((pqr 0 (l.length-1)).size=l.length) && (cK l.toArray (Array.replicate l.length false) (pqr 0 (l.length-1)) && (Region.noSelect l.toArray && jS l)))=true)
  (h:G (.any (pqr 0 (l.length-1))) C l st M (gY l (pqr 0 (l.length-1))) k):J C st M (.code (.region id l.toArray true)::k):=J.Py _ hm hB h
theorem G.mm {f:Fn}{first:List Operand}{vs:List Value} (ha:evL st first=some vs) (hs:bA all st gd d C.N q.calm=some q') (h:G q' C all ((d,.func f vs.toArray #[])::st) M rest k) :
  G q C all st M ({ dst:=some d,op:=.makeFunc f first.toArray #[],type:=ty,pos,after,guard:=gd }::rest) k:=by
 obtain ⟨g1,g2,g3⟩:=aJ hs;exact G.op (OpV.of fun a w hf _ dst pos after guard=>by
  have:=hf.evals ha;simp [execOp,this,Instr.makeFunc]) g1 rfl g2 g3 h
theorem LdV.part {T n:Nat} [hT:gZ C.P T n] {b o tot:Nat}{e:TypeId}{cs vs:List Value} (hm:Row.blk b e cs tot∈M) (hv:(cs.drop o).take n=vs) (hl:(vs.length == n)=true):LdV C M T ⟨b,o,none⟩ (.agg vs.toArray):=by
 subst hv;refine LdV.agg (beq_iff_eq.1 hl) (iT.of fun j v hj=>aC.blk hm ?_)
 rw [List.getElem?_take] at hj;split at hj
 ·rwa [List.getElem?_drop] at hj
 ·cases hj
theorem LdV.Ps {T n:Nat} [hT:gZ C.P T n] {b o j:Nat}{cs vs:List Value} (h:bG C.w0 b o cs) (hv:(cs.drop j).take n=vs) (hl:(vs.length == n)=true):LdV C M T ⟨b,o+j,none⟩ (.agg vs.toArray):=by
 subst hv;refine LdV.agg (beq_iff_eq.1 hl) (iT.of fun i v hj=>?_)
 rw [Nat.add_assoc];refine aC.rowS h ?_;rw [List.getElem?_take] at hj;split at hj
 ·rwa [List.getElem?_drop] at hj
 ·cases hj
theorem aC.Px {b o i j:Nat}{cs:List Value}{v:Value} (h:bG C.w0 b o cs) (hv:cs[i+j]?=some v):aC C M ⟨b,o+i+j,none⟩ v:=by rw [Nat.add_assoc];exact aC.rowS h hv
theorem bU (k:Nat):((k+1:Nat):Int)-1=(k:Int):=by omega
theorem bJ (k:Nat):(k:Int)+1=((k+1:Nat):Int):=rfl
end Go.Sl
/-
 The fields of this seat's structs.
-/
namespace Go.Proofs
open Go.Sl
instance:Ji Tryz.prog 25:=⟨fun a b x y u v w=>by
 simp [go_sem,Op.equal,Op.maxDepth];by_cases h1:a=b<;>by_cases h2:x.toList=y.toList<;>by_cases h3:u.toList=v.toList<;>simp [h1,h2,h3],by kernel_rfl⟩
instance:xK Tryz.prog 151 0 0 1 false:=uE Tryz.runUnderlying151 rfl Tryz.isAgg9 rfl
instance:xK Tryz.prog 185 0 0 1 false:=uE Tryz.runUnderlying185 rfl Tryz.isAgg9 rfl
instance:xK Tryz.prog 185 1 1 1 false:=uE Tryz.runUnderlying185 rfl Tryz.isAgg9 rfl
end Go.Proofs
/-
 The driver over operations and regions,the entrance,the results and the loops;each looks its side conditions up by itself.
-/
namespace Go.Sl
open Go.RowKit Go.Proofs
variable {C:Ctx}{st:List (Nat×Value)}{M:List Row}{k:List Item}{q q':Md}{all rest:List Oper}{d:Nat}{opn:Op}{ty:TypeId}{pos:String}{after:Array Edge}{gd:Option (Nat×Bool)}
theorem G.nc {x:Operand}{p:Addr} (hx:evS st x=some (.pointer (some p))) (hs:bA all st gd d C.N q.calm=some q') (h:G q' C all ((d,.pointer (some p))::st) M rest k) :
  G q C all st M ({ dst:=some d,op:=.nilCheck x,type:=ty,pos,after,guard:=gd }::rest) k:=by
 obtain ⟨g1,g2,g3⟩:=aJ hs;refine G.op (OpV.of fun ac w hf hw dst pos after guard=>?_) g1 rfl g2 g3 h
 simp only [execOp,hf.eval hx];rfl
theorem mm {α:Type}{a:α}{l:List α} (h:a∈l:=by (repeat (first|exact List.Mem.head _|apply List.Mem.tail))):a∈l:=h
theorem LdV.au {T:TypeId}{p:Addr}{v:Value} (h:LdV C M T p v:=by (first|(apply LdV.one;(first|exact aC.P0 (by assumption) rfl|exact aC.rowS (by assumption) rfl|exact aC.Px (by assumption) rfl|(apply aC.blk;exact mm;rfl)))|(apply LdV.Pw;exact mm;rfl)|(apply LdV.part;exact mm;rfl;rfl)|(apply LdV.Pv;assumption;rfl)|(apply LdV.Ps;assumption;rfl;rfl))):LdV C M T p v:=h
theorem RAt.au {r:Row}{F:Row->List Row} (h:RAt r M F:=by (repeat (first|exact RAt.head|apply RAt.tail))):RAt r M F:=h
theorem J.fin {st':List (Nat×Value)}{M':List Row} (h:J C st' M' k) (hs:Sub st st':=by (repeat' (first|exact trivial|refine ⟨rfl,?_⟩))) (hM:M'.Sublist M:=by (repeat' (first|exact List.Sublist.refl _|apply List.Sublist.cons_cons|apply List.Sublist.cons))):J C st M k:=J.forget hM (J.sub hs h)
theorem sbT {st':List (Nat×Value)} (h:Sub st st':=by (repeat' (first|exact trivial|refine ⟨rfl,?_⟩))):Sub st st':=h
theorem sbL {α:Type}{l m:List α} (h:l.Sublist m:=by (repeat' (first|exact List.Sublist.refl _|apply List.Sublist.cons_cons|apply List.Sublist.cons))):l.Sublist m:=h
theorem aB {P:Program}{F:FuncId}{fn:Func}{c:Code}{args:Array Value}{w:World}{R:Ending->World->Prop}{N:Nat} (st:List (Nat×Value)) (hf:P.funcs[F]?=some fn) (hN:fn.ntmps=N) (h:J (fU P F N R w) st [] [.code c])
  (hb:fn.body=some c:=by rfl) (ha:(args.size<=N)=True:=by simp) (hst:pI args st:=by (repeat' (first|exact trivial|refine ⟨rfl,?_⟩))):Calls P F args w R:=enter st hf hb hN ha hst h
section
variable {P:Program}{F:FuncId}{N:Nat}{R:Ending->World->Prop}{w0:World}{fn:Func}{u v v1 v2 v3:Value}{r r1 r2 r3:ResultVar}
theorem kE (hf:P.funcs[F]?=some fn) (hr:fn.results=#[r]) (hR:∀ w,Sat w0 M w->R (.returned v) w) (hv:cD (fU P F N R w0) st M r v:=by (first|(apply cD.tmp;rfl)|(apply cD.cell;rfl;(first|(apply LdV.one;(first|exact aC.P0 (by assumption) rfl|exact aC.rowS (by assumption) rfl|exact aC.Px (by assumption) rfl|(apply aC.blk;exact mm;rfl)))|(apply LdV.Pw;exact mm;rfl)|(apply LdV.part;exact mm;rfl;rfl)|(apply LdV.Pv;assumption;rfl)|(apply LdV.Ps;assumption;rfl;rfl))))) :
  J (fU P F N R w0) st M (.code .ret::k):=GH hf (fI.one hr hv) hR
theorem sK (hf:P.funcs[F]?=some fn) (hr:fn.results=#[r1,r2]) (hR:∀ w,Sat w0 M w->R (.returned (.tuple #[v1,v2])) w) (hv1:cD (fU P F N R w0) st M r1 v1:=by (first|(apply cD.tmp;rfl)|(apply cD.cell;rfl;(first|(apply LdV.one;(first|exact aC.P0 (by assumption) rfl|exact aC.rowS (by assumption) rfl|exact aC.Px (by assumption) rfl|(apply aC.blk;exact mm;rfl)))|(apply LdV.Pw;exact mm;rfl)|(apply LdV.part;exact mm;rfl;rfl)|(apply LdV.Pv;assumption;rfl)|(apply LdV.Ps;assumption;rfl;rfl))))) (hv2:cD (fU P F N R w0) st M r2 v2:=by (first|(apply cD.tmp;rfl)|(apply cD.cell;rfl;(first|(apply LdV.one;(first|exact aC.P0 (by assumption) rfl|exact aC.rowS (by assumption) rfl|exact aC.Px (by assumption) rfl|(apply aC.blk;exact mm;rfl)))|(apply LdV.Pw;exact mm;rfl)|(apply LdV.part;exact mm;rfl;rfl)|(apply LdV.Pv;assumption;rfl)|(apply LdV.Ps;assumption;rfl;rfl))))) :
  J (fU P F N R w0) st M (.code .ret::k):=GH hf (fI.R2 hr hv1 hv2) hR
theorem Lv (hf:P.funcs[F]?=some fn) (hr:fn.results=#[r1,r2,r3]) (hR:∀ w,Sat w0 M w->R (.returned (.tuple #[v1,v2,v3])) w) (hv1:cD (fU P F N R w0) st M r1 v1:=by (first|(apply cD.tmp;rfl)|(apply cD.cell;rfl;(first|(apply LdV.one;(first|exact aC.P0 (by assumption) rfl|exact aC.rowS (by assumption) rfl|exact aC.Px (by assumption) rfl|(apply aC.blk;exact mm;rfl)))|(apply LdV.Pw;exact mm;rfl)|(apply LdV.part;exact mm;rfl;rfl)|(apply LdV.Pv;assumption;rfl)|(apply LdV.Ps;assumption;rfl;rfl))))) (hv2:cD (fU P F N R w0) st M r2 v2:=by (first|(apply cD.tmp;rfl)|(apply cD.cell;rfl;(first|(apply LdV.one;(first|exact aC.P0 (by assumption) rfl|exact aC.rowS (by assumption) rfl|exact aC.Px (by assumption) rfl|(apply aC.blk;exact mm;rfl)))|(apply LdV.Pw;exact mm;rfl)|(apply LdV.part;exact mm;rfl;rfl)|(apply LdV.Pv;assumption;rfl)|(apply LdV.Ps;assumption;rfl;rfl))))) (hv3:cD (fU P F N R w0) st M r3 v3:=by (first|(apply cD.tmp;rfl)|(apply cD.cell;rfl;(first|(apply LdV.one;(first|exact aC.P0 (by assumption) rfl|exact aC.rowS (by assumption) rfl|exact aC.Px (by assumption) rfl|(apply aC.blk;exact mm;rfl)))|(apply LdV.Pw;exact mm;rfl)|(apply LdV.part;exact mm;rfl;rfl)|(apply LdV.Pv;assumption;rfl)|(apply LdV.Ps;assumption;rfl;rfl))))) :
  J (fU P F N R w0) st M (.code .ret::k):=GH hf (fI.QI hr hv1 hv2 hv3) hR
theorem aA (hf:P.funcs[F]?=some fn) (hr:fn.results=#[r]) (hR:Ending.returned v=.returned u) (hv:cD (fU P F N (fun e w'=>e=.returned u/\Below w0.heap.size w0 w') w0) st M r v:=by (first|(apply cD.tmp;rfl)|(apply cD.cell;rfl;(first|(apply LdV.one;(first|exact aC.P0 (by assumption) rfl|exact aC.rowS (by assumption) rfl|exact aC.Px (by assumption) rfl|(apply aC.blk;exact mm;rfl)))|(apply LdV.Pw;exact mm;rfl)|(apply LdV.part;exact mm;rfl;rfl)|(apply LdV.Pv;assumption;rfl)|(apply LdV.Ps;assumption;rfl;rfl))))) :
  J (fU P F N (fun e w'=>e=.returned u/\Below w0.heap.size w0 w') w0) st M (.code .ret::k):=kE hf hr (fun _ hw=>⟨hR,hw.below⟩) hv
theorem hU (hf:P.funcs[F]?=some fn) (hr:fn.results=#[r1,r2]) (hR:Ending.returned (.tuple #[v1,v2])=.returned u) (hv1:cD (fU P F N (fun e w'=>e=.returned u/\Below w0.heap.size w0 w') w0) st M r1 v1:=by (first|(apply cD.tmp;rfl)|(apply cD.cell;rfl;(first|(apply LdV.one;(first|exact aC.P0 (by assumption) rfl|exact aC.rowS (by assumption) rfl|exact aC.Px (by assumption) rfl|(apply aC.blk;exact mm;rfl)))|(apply LdV.Pw;exact mm;rfl)|(apply LdV.part;exact mm;rfl;rfl)|(apply LdV.Pv;assumption;rfl)|(apply LdV.Ps;assumption;rfl;rfl))))) (hv2:cD (fU P F N (fun e w'=>e=.returned u/\Below w0.heap.size w0 w') w0) st M r2 v2:=by (first|(apply cD.tmp;rfl)|(apply cD.cell;rfl;(first|(apply LdV.one;(first|exact aC.P0 (by assumption) rfl|exact aC.rowS (by assumption) rfl|exact aC.Px (by assumption) rfl|(apply aC.blk;exact mm;rfl)))|(apply LdV.Pw;exact mm;rfl)|(apply LdV.part;exact mm;rfl;rfl)|(apply LdV.Pv;assumption;rfl)|(apply LdV.Ps;assumption;rfl;rfl))))) :
  J (fU P F N (fun e w'=>e=.returned u/\Below w0.heap.size w0 w') w0) st M (.code .ret::k):=sK hf hr (fun _ hw=>⟨hR,hw.below⟩) hv1 hv2
theorem ME (hf:P.funcs[F]?=some fn) (hr:fn.results=#[r1,r2,r3]) (hR:Ending.returned (.tuple #[v1,v2,v3])=.returned u) (hv1:cD (fU P F N (fun e w'=>e=.returned u/\Below w0.heap.size w0 w') w0) st M r1 v1:=by (first|(apply cD.tmp;rfl)|(apply cD.cell;rfl;(first|(apply LdV.one;(first|exact aC.P0 (by assumption) rfl|exact aC.rowS (by assumption) rfl|exact aC.Px (by assumption) rfl|(apply aC.blk;exact mm;rfl)))|(apply LdV.Pw;exact mm;rfl)|(apply LdV.part;exact mm;rfl;rfl)|(apply LdV.Pv;assumption;rfl)|(apply LdV.Ps;assumption;rfl;rfl))))) (hv2:cD (fU P F N (fun e w'=>e=.returned u/\Below w0.heap.size w0 w') w0) st M r2 v2:=by (first|(apply cD.tmp;rfl)|(apply cD.cell;rfl;(first|(apply LdV.one;(first|exact aC.P0 (by assumption) rfl|exact aC.rowS (by assumption) rfl|exact aC.Px (by assumption) rfl|(apply aC.blk;exact mm;rfl)))|(apply LdV.Pw;exact mm;rfl)|(apply LdV.part;exact mm;rfl;rfl)|(apply LdV.Pv;assumption;rfl)|(apply LdV.Ps;assumption;rfl;rfl))))) (hv3:cD (fU P F N (fun e w'=>e=.returned u/\Below w0.heap.size w0 w') w0) st M r3 v3:=by (first|(apply cD.tmp;rfl)|(apply cD.cell;rfl;(first|(apply LdV.one;(first|exact aC.P0 (by assumption) rfl|exact aC.rowS (by assumption) rfl|exact aC.Px (by assumption) rfl|(apply aC.blk;exact mm;rfl)))|(apply LdV.Pw;exact mm;rfl)|(apply LdV.part;exact mm;rfl;rfl)|(apply LdV.Pv;assumption;rfl)|(apply LdV.Ps;assumption;rfl;rfl))))) :
  J (fU P F N (fun e w'=>e=.returned u/\Below w0.heap.size w0 w') w0) st M (.code .ret::k):=Lv hf hr (fun _ hw=>⟨hR,hw.below⟩) hv1 hv2 hv3
end
structure pO (Q:Prop):Type where
 h:Q
def pO.r {A B:Prop} (k:pO (A/\B)):pO B:=⟨k.h.2⟩
theorem pO.l {A B:Prop} (k:pO (A/\B)):A:=k.h.1
theorem J.P3 {id:Nat}{l:List Oper} (hm:C.P.follows .mixedOrders=true)
  (hB:(Ei l.dropLast && (decide ((pqr 0 (l.length-1)).size=l.length) && (cK l.toArray (Array.replicate l.length false) (pqr 0 (l.length-1)) && (Region.noSelect l.toArray && jS l))))=true)
  (h:G (.any (pqr 0 (l.length-1))) C l st M (gY l (pqr 0 (l.length-1))) k):J C st M (.code (.region id l.toArray true)::k):=by
 rw [Bool.and_eq_true] at hB;exact J.P4 hm hB.2 h
theorem go {P Q:Prop} (k:Q) (h:pO Q->P:=by
 intro k;repeat' (first|(apply G.pu;rfl;rfl;first|exact trivial|omega)|(apply J.ct;rfl)|(apply G.nil;rfl)|(apply G.cm;rfl;rfl;all_goals intro hzz;all_goals try (exfalso;omega))|(apply G.fa;rfl;rfl)|(apply G.ld;rfl;(first|(apply LdV.one;(first|exact aC.P0 (by assumption) rfl|exact aC.rowS (by assumption) rfl|exact aC.Px (by assumption) rfl|(apply aC.blk;exact mm;rfl)))|(apply LdV.Pw;exact mm;rfl)|(apply LdV.part;exact mm;rfl;rfl)|(apply LdV.Pv;assumption;rfl)|(apply LdV.Ps;assumption;rfl;rfl));rfl)|(apply G.sk;rfl)|(apply G.ls;rfl;rfl)|(apply G.ix;rfl;rfl;rfl;omega;rfl)|(apply G.ix;rfl;rfl;(first|exact bU _|exact bJ _);omega;rfl)|(apply G.ix (i:=0);rfl;rfl;rfl;omega;rfl)|(apply G.lt;rfl;rfl)|(apply G.bu;rfl;rfl;rfl)|(apply G.nc;rfl;rfl)|(apply G.fd;rfl;rfl;rfl)|(apply G.cv;rfl;rfl;rfl;omega)|(apply G.beq;rfl;rfl;rfl)|(apply G.P9;rfl;rfl;rfl)|(apply G.mm;rfl;rfl)|(apply G.mf;rfl;rfl)|(apply G.mx;rfl;rfl;rfl)|(apply G.mn;rfl;rfl;rfl)|(apply G.bx;rfl;rfl;rfl;intro Bkz)|(apply G.al;rfl;intro Bkz)|(apply G.so;rfl;rfl;(repeat (first|exact RAt.head|apply RAt.tail));rfl;rfl)|(apply G.ss;rfl;rfl;(repeat (first|exact RAt.head|apply RAt.tail));rfl;rfl)|(apply J.Pz;exact Tryz.Pr;decide +kernel)|(apply J.P3;exact Tryz.Pr;decide +kernel)|apply J.PA)
 all_goals ((repeat (first|revert hzz|revert Bkz));(repeat replace k:=pO.r k);apply pO.l k)
 all_goals exact True):P:=h ⟨k⟩
theorem gp {P Q:Prop} (k:Q) (h:pO Q->P:=by
 intro k;repeat1' (first|(apply G.pu;rfl;rfl;first|exact trivial|omega)|(apply J.ct;rfl)|(apply G.nil;rfl)|(apply G.cm;rfl;rfl;all_goals intro hzz;all_goals try (exfalso;omega))|(apply G.fa;rfl;rfl)|(apply G.ld;rfl;(first|(apply LdV.one;(first|exact aC.P0 (by assumption) rfl|exact aC.rowS (by assumption) rfl|exact aC.Px (by assumption) rfl|(apply aC.blk;exact mm;rfl)))|(apply LdV.Pw;exact mm;rfl)|(apply LdV.part;exact mm;rfl;rfl)|(apply LdV.Pv;assumption;rfl)|(apply LdV.Ps;assumption;rfl;rfl));rfl)|(apply G.sk;rfl)|(apply G.ls;rfl;rfl)|(apply G.ix;rfl;rfl;rfl;omega;rfl)|(apply G.ix;rfl;rfl;(first|exact bU _|exact bJ _);omega;rfl)|(apply G.ix (i:=0);rfl;rfl;rfl;omega;rfl)|(apply G.lt;rfl;rfl)|(apply G.bu;rfl;rfl;rfl)|(apply G.nc;rfl;rfl)|(apply G.fd;rfl;rfl;rfl)|(apply G.cv;rfl;rfl;rfl;omega)|(apply G.beq;rfl;rfl;rfl)|(apply G.P9;rfl;rfl;rfl)|(apply G.mm;rfl;rfl)|(apply G.mf;rfl;rfl)|(apply G.mx;rfl;rfl;rfl)|(apply G.mn;rfl;rfl;rfl)|(apply G.bx;rfl;rfl;rfl;intro Bkz)|(apply G.al;rfl;intro Bkz)|(apply G.so;rfl;rfl;(repeat (first|exact RAt.head|apply RAt.tail));rfl;rfl)|(apply G.ss;rfl;rfl;(repeat (first|exact RAt.head|apply RAt.tail));rfl;rfl)|(apply J.Pz;exact Tryz.Pr;decide +kernel)|(apply J.P3;exact Tryz.Pr;decide +kernel)|apply J.PA)
 all_goals ((repeat (first|revert hzz|revert Bkz));(repeat replace k:=pO.r k);apply pO.l k)
 all_goals exact True):P:=h ⟨k⟩
theorem goR {P Q:Prop} (k:Q) (h:pO Q->P:=by
 intro k;repeat' (first|(apply G.pu;rfl;rfl;first|exact trivial|omega)|(apply J.ct;rfl)|(apply G.nil;rfl)|(apply G.cm;rfl;rfl;all_goals intro hzz;all_goals try (exfalso;omega))|(apply G.fa;rfl;rfl)|(apply G.ld;rfl;(first|(apply LdV.one;(first|exact aC.P0 (by assumption) rfl|exact aC.rowS (by assumption) rfl|exact aC.Px (by assumption) rfl|(apply aC.blk;exact mm;rfl)))|(apply LdV.Pw;exact mm;rfl)|(apply LdV.part;exact mm;rfl;rfl)|(apply LdV.Pv;assumption;rfl)|(apply LdV.Ps;assumption;rfl;rfl));rfl)|(apply G.sk;rfl)|(apply G.ls;rfl;rfl)|(apply G.ix;rfl;rfl;rfl;omega;rfl)|(apply G.ix;rfl;rfl;(first|exact bU _|exact bJ _);omega;rfl)|(apply G.ix (i:=0);rfl;rfl;rfl;omega;rfl)|(apply G.lt;rfl;rfl)|(apply G.bu;rfl;rfl;rfl)|(apply G.nc;rfl;rfl)|(apply G.fd;rfl;rfl;rfl)|(apply G.cv;rfl;rfl;rfl;omega)|(apply G.beq;rfl;rfl;rfl)|(apply G.P9;rfl;rfl;rfl)|(apply G.mm;rfl;rfl)|(apply G.mf;rfl;rfl)|(apply G.mx;rfl;rfl;rfl)|(apply G.mn;rfl;rfl;rfl)|(apply G.bx;rfl;rfl;rfl;intro Bkz)|(apply G.al;rfl;intro Bkz)|(apply G.so;rfl;rfl;(repeat (first|exact RAt.head|apply RAt.tail));rfl;rfl)|(apply G.ss;rfl;rfl;(repeat (first|exact RAt.head|apply RAt.tail));rfl;rfl)|apply J.PA)
 all_goals ((repeat (first|revert hzz|revert Bkz));(repeat replace k:=pO.r k);apply pO.l k)
 all_goals exact True):P:=h ⟨k⟩
theorem goG {P Q:Prop} (k:Q) (h:pO Q->P:=by
 intro k;repeat' (first|(apply G.pu;rfl;rfl;first|exact trivial|omega)|(apply G.nil;rfl)|(apply G.cm;rfl;rfl;all_goals intro hzz;all_goals try (exfalso;omega))|(apply G.fa;rfl;rfl)|(apply G.ld;rfl;(first|(apply LdV.one;(first|exact aC.P0 (by assumption) rfl|exact aC.rowS (by assumption) rfl|exact aC.Px (by assumption) rfl|(apply aC.blk;exact mm;rfl)))|(apply LdV.Pw;exact mm;rfl)|(apply LdV.part;exact mm;rfl;rfl)|(apply LdV.Pv;assumption;rfl)|(apply LdV.Ps;assumption;rfl;rfl));rfl)|(apply G.sk;rfl)|(apply G.ls;rfl;rfl)|(apply G.ix;rfl;rfl;rfl;omega;rfl)|(apply G.ix;rfl;rfl;(first|exact bU _|exact bJ _);omega;rfl)|(apply G.ix (i:=0);rfl;rfl;rfl;omega;rfl)|(apply G.lt;rfl;rfl)|(apply G.bu;rfl;rfl;rfl)|(apply G.nc;rfl;rfl)|(apply G.fd;rfl;rfl;rfl)|(apply G.cv;rfl;rfl;rfl;omega)|(apply G.beq;rfl;rfl;rfl)|(apply G.P9;rfl;rfl;rfl)|(apply G.mm;rfl;rfl)|(apply G.mf;rfl;rfl)|(apply G.mx;rfl;rfl;rfl)|(apply G.mn;rfl;rfl;rfl)|(apply G.bx;rfl;rfl;rfl;intro Bkz)|(apply G.al;rfl;intro Bkz)|(apply G.so;rfl;rfl;(repeat (first|exact RAt.head|apply RAt.tail));rfl;rfl)|(apply G.ss;rfl;rfl;(repeat (first|exact RAt.head|apply RAt.tail));rfl;rfl))
 all_goals ((repeat (first|revert hzz|revert Bkz));(repeat replace k:=pO.r k);apply pO.l k)
 all_goals exact True):P:=h ⟨k⟩
theorem G.PG {g:FuncId}{args:List Operand}{vs:List Value}{at_:Array TypeId}{v:Value}{w:World} [hF:Fun C.P g]
  (hc:∀ w',Below w.heap.size w w'->Calls C.P g vs.toArray w' fun e w''=>e=.returned v/\Below w'.heap.size w' w'') (h:G q' C all ((d,v)::st) M rest k) (hw:w=C.w0:=by rfl) (ha:evL st args=some vs:=by rfl) (hs:bA all st gd d C.N q.calm=some q':=by rfl) :
  G q C all st M ({ dst:=some d,op:=.call { callee:=.value (.func g),args:=args.toArray,argTypes:=at_ },type:=ty,pos,after,guard:=gd }::rest) k:=by
 subst hw;exact G.cV ha hs (fun w' hw'=>hc w' hw'.below) h
end Go.Sl
/-
 Maps of the call's own: made,looked up,written,ranged over in whatever order.
-/
namespace Go.Sl
open Go.RowKit
open Go.ChangeMaps (setBlock)
variable {C:Ctx}{st:List (Nat×Value)}{M:List Row}{k:List Item}{q q':Md}{all rest:List Oper}{d:Nat}{opn:Op}{ty:TypeId}{pos:String}{after:Array Edge}{gd:Option (Nat×Bool)}
section
variable {κ:Type} [DecidableEq κ]
def fnd (x:κ):List (κ×Value)->Nat->Option (Nat×Value)
 | [],_=>none
 | (y,v)::r,i=>if x=y then some (i,v) else fnd x r (i+1)
def jP (x:κ):List (κ×Value)->Option Value
 | []=>none
 | (y,v)::r=>if x=y then some v else jP x r
def gH (x:κ) (v:Value):List (κ×Value)->List (κ×Value)
 | []=>[(x,v)]
 | (y,u)::r=>if x=y then (x,v)::r else (y,u)::gH x v r
class vY (P:Program) (K:TypeId) (kf:κ->Value):Prop where
 chk:∀ e x w,(Instr.checkKey e 10000 K (kf x)).run P w=.ok () w
 find:∀ x (es:List MapEntry) (L:List (κ×Value)) w,es.map (fun e=>(e.key,e.val))=L.map (fun p=>(kf p.1,p.2))->(Instr.findKey K (kf x) es).run P w=.ok (fnd x L 0) w
 same:∀ x,Instr.sameBits 10000 (kf x) (kf x)=true
class BG (P:Program) (T:TypeId) (K E:outParam TypeId) (z:outParam Value):Prop where
 h1:P.underlying T=some (.map K E)
 h2:∀ w,(zeroValue E).run P w=.ok z w
structure dQ (kf:κ->Value) (es:Array MapEntry) (clock:Nat) (L:List (κ×Value)):Prop where
 kv:es.toList.map (fun e=>(e.key,e.val))=L.map (fun p=>(kf p.1,p.2))
 born:(es.toList.map (·.born)).Nodup
 lt:∀ e∈es.toList,e.born < clock
 keys:(L.map (·.1)).Nodup
theorem dQ.nil {kf:κ->Value}:dQ kf #[] 0 []:=⟨rfl,.nil,by simp,.nil⟩
theorem zL {x:κ}:∀ {L:List (κ×Value)}{i:Nat},fnd x L i=none->jP x L=none/\(∀ v,gH x v L=L++[(x,v)])/\x ∉ L.map (·.1)
 | [],_,_=>⟨rfl,fun _=>rfl,by simp⟩
 | (y,u)::r,i,h=>by
  rw [fnd] at h
  split at h
  ·cases h
  ·rename_i hxy
   obtain ⟨h1,h2,h3⟩:=zL h;refine ⟨by rw [jP,if_neg hxy];exact h1,fun v=>by rw [gH,if_neg hxy,h2];rfl,?_⟩
   rw [List.map_cons,List.mem_cons];exact fun e=>e.elim hxy h3
theorem zM {x:κ}:∀ {L:List (κ×Value)}{i j:Nat}{v:Value},fnd x L i=some (j,v)->∃ n,j=i+n/\L[n]?=some (x,v)/\jP x L=some v/\∀ u,gH x u L=L.set n (x,u)
 | [],_,_,_,h=>by cases h
 | (y,u)::r,i,j,v,h=>by
  rw [fnd] at h
  split at h
  ·rename_i hxy
   cases h;subst hxy;exact ⟨0,rfl,rfl,by rw [jP,if_pos rfl],fun w=>by rw [gH,if_pos rfl];rfl⟩
  ·rename_i hxy
   obtain ⟨n,h1,h2,h3,h4⟩:=zM h;exact ⟨n+1,by omega,by simpa using h2,by rw [jP,if_neg hxy];exact h3,fun w=>by rw [gH,if_neg hxy,h4];rfl⟩
theorem uF (x y:κ) (v:Value):∀ L:List (κ×Value),jP x (gH y v L)=if x=y then some v else jP x L
 | []=>by simp [gH,jP]
 | (z,u)::r=>by
  rw [gH];by_cases hyz:y=z
  ·subst hyz
   rw [if_pos rfl,jP,jP];split<;>rfl
  ·rw [if_neg hyz,jP,jP,uF x y v r]
   by_cases hxz:x=z
   ·rw [if_pos hxz,if_pos hxz,if_neg (fun e=>hyz (e.symm.trans hxz))]
   ·rw [if_neg hxz,if_neg hxz]
theorem xL {x:Int}:∀ (es:List MapEntry) (L:List (Int×Value)) (i:Nat),es.map (fun e=>(e.key,e.val))=L.map (fun p=>(Value.int .i64 p.1,p.2))->Instr.findNow (.int .i64) (.int .i64 x) es i=some (fnd x L i)
 | [],[],_,_=>rfl
 | [],_::_,_,h=>by simp at h
 | _::_,[],_,h=>by simp at h
 | e::es,(y,v)::L,i,h=>by
  simp only [List.map_cons,List.cons.injEq,Prod.mk.injEq] at h
  obtain ⟨⟨h1,h2⟩,h3⟩:=h;rw [fnd,Instr.findNow,h1,h2];simp only [Instr.sameNow,if_true];by_cases hxy:x=y
  ·subst hxy;simp
  ·have:(x == y)=false:=by simpa using hxy
   simp only [this,if_neg hxy];exact xL es L (i+1) h3
theorem vY.int {P:Program}{K:TypeId} (h:P.underlying K=some (.int .i64)):vY P K (Value.int .i64) where
 chk:=fun e x w=>by rw [show (10000:Nat)=9999+1 from rfl,Instr.checkKey];simp [underlying,h]
 find:=fun x es L w hl=>by simp [Instr.findKey,underlying,h,xL es L 0 hl]
 same:=fun x=>by simp [Instr.sameBits]
theorem GM {P:Program}{K:TypeId}{kf:κ->Value} (he:∀ x y w,(Op.equal K (kf x) (kf y)).run P w=.ok (decide (x=y)) w) (x:κ) (w:World):∀ (es:List MapEntry) (L:List (κ×Value)) (i:Nat),es.map (fun e=>(e.key,e.val))=L.map (fun p=>(kf p.1,p.2))->(Instr.findAsking K (kf x) es i).run P w=.ok (fnd x L i) w
 | [],[],_,_=>rfl
 | [],_::_,_,h=>by simp at h
 | _::_,[],_,h=>by simp at h
 | e::es,(y,v)::L,i,h=>by
  simp only [List.map_cons,List.cons.injEq,Prod.mk.injEq] at h
  obtain ⟨⟨h1,h2⟩,h3⟩:=h;rw [fnd,Instr.findAsking,h1,h2];simp only [Sem.run_bind,he,Result.andThen_ok];by_cases hxy:x=y
  ·subst hxy;simp
  ·simp only [hxy,decide_false,Bool.false_eq_true,if_false]
   exact GM he x w es L (i+1) h3
theorem vY.R0 {P:Program}{K:TypeId}{kf:κ->Value}{D:TypeDesc} (h:P.underlying K=some D) (hn:∀ x y,Instr.sameNow D (kf x) (kf y)=none) (hc:∀ e x w,(Instr.checkKey e 10000 K (kf x)).run P w=.ok () w)
  (he:∀ x y w,(Op.equal K (kf x) (kf y)).run P w=.ok (decide (x=y)) w) (hs:∀ x,Instr.sameBits 10000 (kf x) (kf x)=true):vY P K kf where
 chk:=hc
 same:=hs
 find:=fun x es L w hl=>by
  cases es with
  | nil =>
   cases L with
   | nil=>simp [Instr.findKey,underlying,h,Instr.findNow,fnd]
   | cons p L=>simp at hl
  | cons e es =>
   cases L with
   | nil=>simp at hl
   | cons p L =>
    have h1:e.key=kf p.1:=by
     simp only [List.map_cons,List.cons.injEq,Prod.mk.injEq] at hl;exact hl.1.1
    have h2:=GM he x w (e::es) (p::L) 0 hl;have h0:∀ w,(underlying K).run P w=.ok D w:=fun w=>by simp [underlying,h]
    simp only [Instr.findKey,Sem.run_bind,h0,Result.andThen_ok];simp [Instr.findNow,h1,hn,h2]
theorem HT {L:List (κ×Value)}{n:Nat}{x:κ}{u v:Value} (h:L[n]?=some (x,u)):(L.set n (x,v)).map (·.1)=L.map (·.1):=by
 rw [List.map_set];apply List.ext_getElem?;intro i;by_cases hi:n=i
 ·subst hi
  have hlt:=(List.getElem?_eq_some_iff.1 h).1;rw [List.getElem?_set_self (by simpa using hlt),List.getElem?_map,h];rfl
 ·rw [List.getElem?_set_ne hi]
theorem dQ.upd {kf:κ->Value}{es:Array MapEntry}{clock:Nat}{L:List (κ×Value)} (h:dQ kf es clock L) {x:κ}{n:Nat}{u v:Value} (hn:L[n]?=some (x,u)):dQ kf (es.modify n fun e=>{ e with key:=kf x,val:=v }) clock (L.set n (x,v)):=by
 have hlen:es.toList.length=L.length:=by have:=congrArg List.length h.kv;simpa using this
 have hm:(es.modify n fun e=>{ e with key:=kf x,val:=v }).toList=es.toList.modify n fun e=>{ e with key:=kf x,val:=v }:=Array.toList_modify ..
 have hb:(es.toList.modify n fun e=>{ e with key:=kf x,val:=v }).map (·.born)=es.toList.map (·.born):=by
  apply List.ext_getElem?;intro i;simp only [List.getElem?_map,List.getElem?_modify];cases es.toList[i]? with
  | none=>rfl
  | some e=>by_cases hi:n=i<;>simp [hi]
 refine ⟨?_,by rw [hm,hb];exact h.born,fun e he=>?_,by rw [HT hn];exact h.keys⟩
 ·rw [hm]
  apply List.ext_getElem?;intro i;have h1:=congrArg (·[i]?) h.kv;simp only [List.getElem?_map,List.getElem?_modify] at h1 ⊢;by_cases hi:n=i
  ·subst hi
   have hlt:=(List.getElem?_eq_some_iff.1 hn).1;rw [List.getElem?_set_self hlt,gE om];simp
  ·rw [List.getElem?_set_ne hi,<- h1]
   cases es.toList[i]?<;>simp [hi]
 ·rw [hm] at he
  have:e.born∈es.toList.map (·.born):=by rw [<- hb];exact List.mem_map.2 ⟨e,he,rfl⟩
  obtain ⟨e',h1,h2⟩:=List.mem_map.1 this;rw [<- h2];exact h.lt e' h1
theorem dQ.add {kf:κ->Value}{es:Array MapEntry}{clock:Nat}{L:List (κ×Value)} (h:dQ kf es clock L) {x:κ}{v:Value} (hx:x ∉ L.map (·.1)):dQ kf (es.push { key:=kf x,val:=v,born:=clock }) (clock+1) (L++[(x,v)]):=by
 refine ⟨by simp [h.kv],?_,?_,?_⟩
 ·rw [Array.toList_push,List.map_append,List.nodup_append]
  refine ⟨h.born,by simp,fun a ha b hb=>?_⟩
  obtain ⟨e,he,rfl⟩:=List.mem_map.1 ha;have:=h.lt e he;simp at hb;omega
 ·intro e he
  rw [Array.toList_push,List.mem_append] at he;rcases he with he|he
  ·exact Nat.lt_succ_of_lt (h.lt e he)
  ·simp at he;subst he;exact Nat.lt_succ_self _
 ·rw [List.map_append,List.nodup_append]
  exact ⟨h.keys,by simp,fun a ha b hb=>by simp at hb;subst hb;exact fun e=>hx (e ▸ ha)⟩
theorem Sat.objRow {w0 w:World} (h:Sat w0 M w) {b:Nat}{o:Obj} (hm:Row.obj b o∈M):w.heap[b]?=some o:=h.hold _ hm
theorem G.Qv {T:TypeId} (hs:bA all st gd d C.N q.ext=some q') (h:∀ B,G q' C all ((d,.map (some B))::st) (.obj B (.map #[] 0)::M) rest k) :
  G q C all st M ({ dst:=some d,op:=.makeMap T none,type:=ty,pos,after,guard:=gd }::rest) k:=by
 obtain ⟨g1,g2,g3⟩:=aJ hs;refine G.ext g1 rfl g3 (Eff.val g2 fun a w hf hw=>⟨_,w.alloc (.map #[] 0),_,by simp [execOp,Instr.makeMap],?_,List.sublist_cons_self _ _,h w.heap.size⟩)
 refine hw.new ((Below.refl _ _).alloc (Nat.le_refl _) _) (r:=.obj w.heap.size (.map #[] 0)) (heap_alloc_new _ _) (Nat.zero_le _) fun b hb=>?_
 cases hb;exact ⟨Nat.le_refl _,by simp⟩
theorem zN {P:Program}{T K E:TypeId}{z:Value}{kf:κ->Value} [hT:BG P T K E z] [hK:vY P K kf] {es:Array MapEntry}{clock b:Nat}{L:List (κ×Value)} (h:dQ kf es clock L) {w:World} (hb:w.heap[b]?=some (.map es clock)) (x:κ) (ok:Bool) :
  (Instr.lookup T (.map (some b)) (kf x) ok).run P w=.ok (if ok then .tuple #[(jP x L).getD z,.bool (jP x L).isSome] else (jP x L).getD z) w:=by
 have h1:=hK.find x es.toList L w h.kv;have h0:∀ w,(underlying T).run P w=.ok (.map K E) w:=fun w=>by simp [underlying,hT.h1]
 simp only [Instr.lookup,Sem.run_bind,h0,Result.andThen_ok,getObj,Sem.run,hb,hK.chk];simp only [Result.andThen_ok,h1,Sem.run_bind,Sem.run_pure];cases hf:fnd x L 0 with
 | none =>
  rw [(zL hf).1];simp only [Sem.run_bind,hT.h2,Result.andThen_ok];cases ok<;>rfl
 | some p =>
  obtain ⟨j,v⟩:=p;obtain ⟨n,_,_,h2,_⟩:=zM hf;rw [h2];cases ok<;>rfl
theorem G.lk {T K E b:TypeId}{z v:Value}{kf:κ->Value}{es:Array MapEntry}{clock:Nat}{L:List (κ×Value)}{x y:Operand}{a:κ} (hI:dQ kf es clock L) (hx:evS st x=some (.map (some b))) (hy:evS st y=some (kf a)) (hm:Row.obj b (.map es clock)∈q.cls M) [hT:BG C.P T K E z] [hK:vY C.P K kf] (hv:(jP a L).getD z=v)
  (hs:bA all st gd d C.N q.calm=some q') (h:G q' C all ((d,v)::st) M rest k):G q C all st M ({ dst:=some d,op:=.lookup T x y false,type:=ty,pos,after,guard:=gd }::rest) k:=by
 obtain ⟨g1,g2,g3⟩:=aJ hs;subst hv;refine G.op (OpV.of fun ac w hf hw dst pos after guard=>?_) g1 rfl g2 g3 h
 have:=zN (P:=C.P) (T:=T) (K:=K) (E:=E) (z:=z) hI (hw.objRow hm) a false;simp only [execOp,hf.eval hx,hf.eval hy,Sem.run_bind,this,Result.andThen_ok];rfl
theorem G.Rp {T K E b:TypeId}{z:Value}{kf:κ->Value}{es:Array MapEntry}{clock:Nat}{L:List (κ×Value)}{x y:Operand}{a:κ}{r:Option Value} (hI:dQ kf es clock L) (hg:jP a L=r) (hx:evS st x=some (.map (some b))) (hy:evS st y=some (kf a)) (hm:Row.obj b (.map es clock)∈q.cls M) [hT:BG C.P T K E z] [hK:vY C.P K kf]
  (hs:bA all st gd d C.N q.calm=some q') (h:G q' C all ((d,.tuple #[r.getD z,.bool r.isSome])::st) M rest k):G q C all st M ({ dst:=some d,op:=.lookup T x y true,type:=ty,pos,after,guard:=gd }::rest) k:=by
 obtain ⟨g1,g2,g3⟩:=aJ hs;subst hg;refine G.op (OpV.of fun ac w hf hw dst pos after guard=>?_) g1 rfl g2 g3 h
 have:=zN (P:=C.P) (T:=T) (K:=K) (E:=E) (z:=z) hI (hw.objRow hm) a true;simp only [execOp,hf.eval hx,hf.eval hy,Sem.run_bind,this,Result.andThen_ok];rfl
theorem zO {P:Program}{w:World}{r:Nat}{es es':Array MapEntry}{c c':Nat} (hr:w.heap[r]?=some (.map es c)):(setObj r (.map es' c')).run P w=.ok () (setBlock w r (.map es' c')):=by
 simp [setObj,Sem.run,hr,setBlock]
theorem Sat.obj {w0 w:World} (h:Sat w0 M w) {i b:Nat}{o o':Obj} (hi:M[i]?=some (.obj b o)):Sat w0 (M.set i (.obj b o')) (setBlock w b o'):=by
 have h1:w.heap[b]?=some o:=h.hold _ (List.mem_of_getElem? hi);have hb:b < w.heap.size:=(Array.getElem?_eq_some_iff.1 h1).1;refine h.change hi rfl rfl rfl (by simp [setBlock]) (fun k hk hk'=>?_) ?_ (Nat.zero_le _) fun b' hb'=>⟨.inl hb',by cases hb';simpa [setBlock] using hb⟩
 ·have:b≠k:=fun e=>hk' e.symm
  simp [setBlock,Array.getElem?_setIfInBounds_ne this]
 ·show (setBlock w b o').heap[b]?=some o'
  simp [setBlock,hb]
theorem Sat.draw {w0 w:World} (h:Sat w0 M w):Sat w0 M w.drew:=h.ext ⟨rfl,rfl,rfl,Nat.le_refl _,fun _ _=>rfl⟩
theorem Fx {P:Program}{T K E:TypeId}{z:Value}{kf:κ->Value} [hT:BG P T K E z] [hK:vY P K kf] {es:Array MapEntry}{clock b:Nat}{L:List (κ×Value)} (h:dQ kf es clock L) {w:World} (hb:w.heap[b]?=some (.map es clock)) (x:κ) (v:Value) :
  ∃ es' clock',dQ kf es' clock' (gH x v L)/\(Instr.mapUpdate T (.map (some b)) (kf x) v).run P w=.ok () (setBlock w b (.map es' clock')):=by
 have h1:=hK.find x es.toList L w h.kv;have h0:∀ w,(underlying T).run P w=.ok (.map K E) w:=fun w=>by simp [underlying,hT.h1]
 have hlen:es.toList.length=L.length:=by have:=congrArg List.length h.kv;simpa using this
 simp only [Instr.mapUpdate,Sem.run_bind,h0,Result.andThen_ok,getObj,Sem.run,hb,hK.chk];simp only [Result.andThen_ok,h1,Sem.run_bind];cases hf:fnd x L 0 with
 | none =>
  obtain ⟨_,h3,h4⟩:=zL hf;rw [h3 v];exact ⟨_,_,h.add h4,by simp only [];exact zO hb⟩
 | some p =>
  obtain ⟨j,u⟩:=p;obtain ⟨n,h2,h3,_,h4⟩:=zM hf;rw [Nat.zero_add] at h2;subst h2;rw [h4 v];have hlt:=(List.getElem?_eq_some_iff.1 h3).1;have hkey:((es[j]?).map (·.key)).getD (kf x)=kf x:=by
   have h5:=congrArg (·[j]?) h.kv;simp only [List.getElem?_map,h3] at h5;rw [<- Array.getElem?_toList];cases he:es.toList[j]? with
   | none=>rfl
   | some e=>rw [he] at h5;simp at h5;simp [h5.1]
  refine ⟨_,_,h.upd h3,?_⟩;simp only [hkey,Instr.keyThatStays,hK.same,if_true,Sem.run_bind];simp only [Sem.run_pure,Result.andThen_ok];exact zO hb
theorem G.mu {T K E b:TypeId}{z v:Value}{kf:κ->Value}{es:Array MapEntry}{clock:Nat}{L L':List (κ×Value)}{x y u:Operand}{a:κ}{F:Row->List Row} (hI:dQ kf es clock L) (hL:gH a v L=L') (hs:wqB all st gd q.res=some q') (hx:evS st x=some (.map (some b))) (hy:evS st y=some (kf a)) (hu:evS st u=some v) (hm:RAt (.obj b (.map es clock)) M F) [hT:BG C.P T K E z] [hK:vY C.P K kf]
  (h:∀ es' clock',dQ kf es' clock' L'->G q' C all st (F (.obj b (.map es' clock'))) rest k):G q C all st M ({ dst:=none,op:=.mapUpdate T x y u,type:=ty,pos,after,guard:=gd }::rest) k:=by
 obtain ⟨g1,g3⟩:=pL hs;obtain ⟨i,h5,h6⟩:=hm.idx;subst hL;refine G.res g1 rfl g3 (Eff.Qj fun ac w hf hw=>?_)
 obtain ⟨es',c',h7,h8⟩:=Fx (P:=C.P) (T:=T) (K:=K) (E:=E) (z:=z) hI (hw.hold _ (List.mem_of_getElem? h5)) a v;refine ⟨_,_,?_,hw.obj h5 (o':=.map es' c'),by rw [h6];exact h es' c' h7⟩
 simp only [execOp,hf.eval hx,hf.eval hy,hf.eval hu,Sem.run_bind,h8,Result.andThen_ok];rfl
def Rem (kf:κ->Value) (es:Array MapEntry) (seen:Array Nat) (R:List (κ×Value)):Prop:=((leftOf es seen).toList.map fun e=>(e.key,e.val))=R.map fun p=>(kf p.1,p.2)
theorem Rem.start {kf:κ->Value}{es:Array MapEntry}{clock:Nat}{L:List (κ×Value)} (h:dQ kf es clock L):Rem kf es #[] L:=by
 unfold Rem;rw [show leftOf es #[]=es by simp [leftOf]]
 exact h.kv
theorem nX {p p':MapEntry->Bool}{e:MapEntry}{i:Nat}:∀ {l:List MapEntry},(l.map (·.born)).Nodup->(l.filter p)[i]?=some e->(∀ x,p' x=(p x && !(x.born == e.born)))->l.filter p'=(l.filter p).eraseIdx i
 | [],_,h,_=>by simp at h
 | x::l,hn,h,hp=>by
  have hn':=List.nodup_cons.1 hn;by_cases hx:p x=true
  ·rw [List.filter_cons_of_pos hx] at h ⊢
   cases i with
   | zero =>
    simp only [List.getElem?_cons_zero,Option.some.injEq] at h
    subst h;rw [List.eraseIdx_cons_zero,List.filter_cons_of_neg (by simp [hp])]
    apply List.filter_congr;intro y hy;rw [hp]
    have:(y.born == x.born)=false:=by
     rw [beq_eq_false_iff_ne];exact fun e=>hn'.1 (by show x.born∈_;rw [<- e];exact List.mem_map.2 ⟨y,hy,rfl⟩)
    simp [this]
   | succ i =>
    rw [List.getElem?_cons_succ] at h
    have he:e∈l:=(List.mem_filter.1 (List.mem_of_getElem? h)).1
    have:(x.born == e.born)=false:=by
     rw [beq_eq_false_iff_ne];exact fun e'=>hn'.1 (by show x.born∈_;rw [e'];exact List.mem_map.2 ⟨e,he,rfl⟩)
    rw [List.filter_cons_of_pos (by simp [hp,hx,this]),List.eraseIdx_cons_succ,nX hn'.2 h hp]
  ·rw [List.filter_cons_of_neg hx] at h ⊢
   rw [List.filter_cons_of_neg (by simp [hp,hx]),nX hn'.2 h hp]
theorem G.rg {T K E b:TypeId}{z:Value}{es:Array MapEntry}{clock:Nat}{x:Operand} (hx:evS st x=some (.map (some b))) (hm:Row.obj b (.map es clock)∈M) [hT:BG C.P T K E z] (hs:bA all st gd d C.N q.ext=some q')
  (h:∀ B,G q' C all ((d,.pointer (some ⟨B,0,none⟩))::st) (.obj B (.mapIter (some b) clock #[] clock)::M) rest k):G q C all st M ({ dst:=some d,op:=.range T x,type:=ty,pos,after,guard:=gd }::rest) k:=by
 obtain ⟨g1,g2,g3⟩:=aJ hs;refine G.ext g1 rfl g3 (Eff.val g2 fun a w hf hw=>⟨_,w.alloc (.mapIter (some b) clock #[] clock),_,?_,?_,List.sublist_cons_self _ _,h w.heap.size⟩)
 ·have:=run_range_map (P:=C.P) w T K E b es clock hT.h1 (hw.objRow hm)
  simp only [execOp,hf.eval hx,Sem.run_bind,this,Result.andThen_ok];rfl
 ·refine hw.new ((Below.refl _ _).alloc (Nat.le_refl _) _) (r:=.obj w.heap.size _) (heap_alloc_new _ _) (Nat.zero_le _) fun b hb=>?_
  cases hb;exact ⟨Nat.le_refl _,by simp⟩
theorem Em {es:Array MapEntry}{seen:Array Nat}{e:MapEntry}{i:Nat} (hn:(es.toList.map (·.born)).Nodup) (h:(leftOf es seen).toList[i]?=some e):(leftOf es (seen.push e.born)).toList=(leftOf es seen).toList.eraseIdx i:=by
 unfold leftOf at h ⊢
 rw [Array.toList_filter] at h ⊢
 rw [Array.toList_filter];refine nX hn h fun x=>?_
 rw [Array.contains_push,Bool.not_or]
theorem G.Rj {b r:TypeId}{kf:κ->Value}{es:Array MapEntry}{clock:Nat}{seen:Array Nat}{L R:List (κ×Value)}{x:Operand}{t:TypeId}{F:Row->List Row} (hI:dQ kf es clock L) (hR:Rem kf es seen R) (h0:R≠[]) (hs:bA all st gd d C.N q.res=some q') (hx:evS st x=some (.pointer (some ⟨r,0,none⟩))) (hm:RAt (.obj r (.mapIter (some b) clock seen clock)) M F) (hb:Row.obj b (.map es clock)∈M)
  (h:∀ i,(hi:i < R.length)->∀ seen',Rem kf es seen' (R.eraseIdx i)->(∃ e∈es.toList,seen'=seen.push e.born/\e.key=kf R[i].1/\e.val=R[i].2)->G q' C all ((d,.tuple #[.bool true,kf R[i].1,R[i].2])::st) (F (.obj r (.mapIter (some b) clock seen' clock))) rest k) :
  G q C all st M ({ dst:=some d,op:=.next x false,type:=t,pos,after,guard:=gd }::rest) k:=by
 obtain ⟨g1,g2,g3⟩:=aJ hs;obtain ⟨j,h5,h6⟩:=hm.idx;refine G.res g1 rfl g3 (Eff.val g2 fun ac w hf hw=>?_)
 rcases run_next_at (P:=C.P) w t r b clock clock seen es clock (hw.hold _ (List.mem_of_getElem? h5)) (hw.objRow hb) hI.lt (Nat.le_refl _) with ⟨h1,_⟩|⟨e,he,w1,h1,h2⟩
 ·exfalso
  unfold Rem at hR;have:=congrArg List.length hR;simp only [List.length_map,Array.length_toList] at this;exact h0 (List.length_eq_zero_iff.1 (this ▸ h1))
 ·obtain ⟨i,hi⟩:=List.mem_iff_getElem?.1 he
  have hR':=congrArg (·[i]?) hR;simp only [List.getElem?_map,hi,Option.map_some] at hR';have hil:i < R.length:=by
   rcases Nat.lt_or_ge i R.length with h|h
   ·exact h
   ·rw [List.getElem?_eq_none h] at hR';simp at hR'
  rw [gE hil] at hR';simp only [Option.map_some,Option.some.injEq,Prod.mk.injEq] at hR';have h3:Sat C.w0 M w1:=by
   rcases h1 with rfl|rfl
   ·exact hw
   ·exact hw.draw
  have hmem:e∈es.toList:=(mem_left he).1;have hrem:Rem kf es (seen.push e.born) (R.eraseIdx i):=by
   unfold Rem;rw [Em hI.born hi,List.eraseIdx_eq_take_drop_succ,List.eraseIdx_eq_take_drop_succ,List.map_append,List.map_append,List.map_take,List.map_drop,List.map_take,List.map_drop];unfold Rem at hR;rw [hR]
  refine ⟨_,_,_,?_,h3.obj h5 (o':=.mapIter (some b) clock (seen.push e.born) clock),by rw [h6];exact h i hil _ hrem ⟨e,hmem,rfl,hR'.1,hR'.2⟩⟩
  simp only [execOp,hf.eval hx,Sem.run_bind,h2,Result.andThen_ok,hR'.1,hR'.2];rfl
theorem G.Rk {b r:TypeId}{kf:κ->Value}{es:Array MapEntry}{clock:Nat}{seen:Array Nat}{L:List (κ×Value)}{x:Operand}{t:TypeId} (hI:dQ kf es clock L) (hR:Rem kf es seen ([]:List (κ×Value))) (hs:bA all st gd d C.N q.calm=some q') (hx:evS st x=some (.pointer (some ⟨r,0,none⟩))) (hm:Row.obj r (.mapIter (some b) clock seen clock)∈q.cls M) (hb:Row.obj b (.map es clock)∈q.cls M)
  (h:G q' C all ((d,.tuple #[.bool false])::st) M rest k):G q C all st M ({ dst:=some d,op:=.next x false,type:=t,pos,after,guard:=gd }::rest) k:=by
 obtain ⟨g1,g2,g3⟩:=aJ hs;refine G.op (OpV.of fun ac w hf hw dst pos after guard=>?_) g1 rfl g2 g3 h
 rcases run_next_at (P:=C.P) w t r b clock clock seen es clock (hw.objRow hm) (hw.objRow hb) hI.lt (Nat.le_refl _) with ⟨_,h2⟩|⟨e,he,w1,h1,h2⟩
 ·simp only [execOp,hf.eval hx,Sem.run_bind,h2,Result.andThen_ok];rfl
 ·exfalso
  unfold Rem at hR;have:=congrArg List.length hR;simp only [List.length_map,List.map_nil,List.length_nil] at this;rw [List.length_eq_zero_iff.1 this] at he;cases he
theorem G.en {b r:TypeId}{kf:κ->Value}{es:Array MapEntry}{clock:Nat}{seen seen':Array Nat}{L:List (κ×Value)}{x:Operand}{e:MapEntry}{u v:Value} (hI:dQ kf es clock L) (he:e∈es.toList) (hsn:seen'=seen.push e.born) (hu:e.key=u) (hv:e.val=v) (hs:bA all st gd d C.N q.calm=some q') (hx:evS st x=some (.pointer (some ⟨r,0,none⟩))) (hm:Row.obj r (.mapIter (some b) clock seen' clock)∈q.cls M) (hb:Row.obj b (.map es clock)∈q.cls M)
  (h:G q' C all ((d,.tuple #[u,v])::st) M rest k):G q C all st M ({ dst:=some d,op:=.entry x,type:=ty,pos,after,guard:=gd }::rest) k:=by
 obtain ⟨g1,g2,g3⟩:=aJ hs;subst hsn hu hv;refine G.op (OpV.of fun ac w hf hw dst pos after guard=>?_) g1 rfl g2 g3 h
 have:=run_entry_at (P:=C.P) w r b clock seen es clock e (hw.objRow hm) (hw.objRow hb) he hI.born;simp only [execOp,hf.eval hx,Sem.run_bind,this,Result.andThen_ok];rfl
end
theorem Sat.swap {w0 w:World} (h:Sat w0 M w) {i:Nat}{r r':Row} (hi:M[i]?=some r) (hr:r'.hold w) (hb:r'.base=0) (hs:∀ b,r'.sup b->r.lock b):Sat w0 (M.set i r') w :=
 h.change hi rfl rfl rfl (Nat.le_refl _) (fun _ _ _=>rfl) hr om fun b hb'=>⟨.inl (hs b hb'),((h.old r (List.mem_of_getElem? hi)).2 b (Row.P2 (hs b hb'))).2⟩
theorem Sat.bare {w0 w:World} (h:Sat w0 M w) {b:Nat}{A:Obj->Prop}{F:Row->List Row} (hm:RAt (.inv b A) M F):∃ o,A o/\Sat w0 (F (.obj b o)) w:=by
 obtain ⟨i,h1,h2⟩:=hm.idx;obtain ⟨o,h3,h4⟩:=h.hold _ (List.mem_of_getElem? h1);exact ⟨o,h4,h2 _ ▸ h.swap h1 (r':=.obj b o) h3 rfl fun _ h=>h⟩
theorem Sat.shutI {w0 w:World} (h:Sat w0 M w) {b:Nat}{o:Obj}{A:Obj->Prop}{F:Row->List Row} (hm:RAt (.obj b o) M F) (hA:A o):Sat w0 (F (.inv b A)) w:=by
 obtain ⟨i,h1,h2⟩:=hm.idx;exact h2 _ ▸ h.swap h1 (r':=.inv b A) ⟨o,h.hold _ (List.mem_of_getElem? h1),hA⟩ rfl fun _ h=>h
theorem J.bare {b:Nat}{A:Obj->Prop}{F:Row->List Row} (hm:RAt (.inv b A) M F) (h:∀ o,A o->J C st (F (.obj b o)) k):J C st M k :=
 .mk fun a w hf hd hw=>let ⟨o,h1,h2⟩:=hw.bare hm;(h o h1).go a w hf hd h2
theorem J.shutI {b:Nat}{o:Obj}{A:Obj->Prop}{F:Row->List Row} (hm:RAt (.obj b o) M F) (hA:A o) (h:J C st (F (.inv b A)) k):J C st M k :=
 .mk fun a w hf hd hw=>h.go a w hf hd (hw.shutI hm hA)
inductive eS (r:Row):List Row->List Row->Prop
 | head {M:List Row}:eS r (r::M) M
 | tail {s:Row}{M M':List Row} (h:eS r M M'):eS r (s::M) (s::M')
theorem eS.perm {r:Row}{M M':List Row} (h:eS r M M'):M.Perm (r::M'):=by
 induction h with
 | head=>exact .refl _
 | tail _ ih=>exact (List.Perm.cons _ ih).trans (List.Perm.swap _ _ _)
theorem G.cI {g:FuncId}{args:List Operand}{vs:List Value}{at_:Array TypeId}{v:Value}{M1:List Row} (ha:evL st args=some vs) (hs:bA all st gd d C.N q.ext=some q') [hF:Fun C.P g] (hp:M.Perm M1)
  (hc:∀ w,Sat C.w0 M1 w->Calls C.P g vs.toArray w fun e w'=>e=.returned v/\Sat C.w0 M1 w') (h:G q' C all ((d,v)::st) M rest k) :
  G q C all st M ({ dst:=some d,op:=.call { callee:=.value (.func g),args:=args.toArray,argTypes:=at_ },type:=ty,pos,after,guard:=gd }::rest) k:=by
 obtain ⟨g1,g2,g3⟩:=aJ hs;exact G.call0 (X:=Unit) (v:=fun _=>v) (Mn:=fun _=>[]) g1 g2 g3 ha (fun w hw=>(hc w (hw.perm hp)).mono fun e w' he=>⟨(),he.1,he.2.perm hp.symm⟩) fun _=>h
section
variable {P:Program}{F:FuncId}{N:Nat}{R:Ending->World->Prop}{w0:World}{fn:Func}
theorem O2 (hf:P.funcs[F]?=some fn) (hr:fn.results=#[]) (hR:∀ w,Sat w0 M w->R (.returned (.tuple #[])) w):J (fU P F N R w0) st M []:=zD hf (fI.zero hr) hR
theorem vZ {c:Code}{args:Array Value}{w:World} (st:List (Nat×Value)) (hw:Sat w0 M w) (hf:P.funcs[F]?=some fn) (hN:fn.ntmps=N) (h:J (fU P F N R w0) st M [.code c])
  (hb:fn.body=some c:=by rfl) (ha:(args.size<=N)=True:=by simp) (hst:pI args st:=by (repeat' (first|exact trivial|refine ⟨rfl,?_⟩))):Calls P F args w R:=Jb st hw hf hb hN ha hst h
end
end Go.Sl
/-
 Ranges over functions with two values,whose rounds may leave the loop.
-/
namespace Go.Sl
open Go.RowKit
variable {C:Ctx}{st:List (Nat×Value)}{M:List Row}{k:List Item}{q q':Md}{all rest:List Oper}{d:Nat}{ty:TypeId}{pos:String}{after:Array Edge}{gd:Option (Nat×Bool)}
section
variable {P:Program}{l:Nat}{F:FuncId}{N:Nat}{w0:World}{r:Loop}{X:Type}{Rs:X->List Row}{M':List Row}{Gt:X->Prop}{Out:Code->X->Prop}
end
inductive En (T:List Row):List Row->List Row->Prop
 | nil:En T T []
 | cons {r:Row}{M K:List Row} (h:En T M K):En T (r::M) (r::K)
theorem En.eq {T M K:List Row} (h:En T M K):M=K++T:=by
 induction h with
 | nil=>rfl
 | cons _ ih=>rw [ih];rfl
end Go.Sl
/-
 Families of slices that nobody writes;own slices that are opened,cut and closed.
-/
namespace Go.Sl
open Go.RowKit
variable {C:Ctx}{st:List (Nat×Value)}{M:List Row}{k:List Item}{q q':Md}{all rest:List Oper}{d:Nat}{opn:Op}{ty:TypeId}{pos:String}{after:Array Edge}{gd:Option (Nat×Bool)}
theorem Sat.noLock {w0 w:World} (hw:Sat w0 M w) {s r:Row} (hm:s∈M) (hs:∀ b,¬ s.lock b) (hr:r∈M) {b:Nat} (hb:s.sup b):¬ r.lock b:=fun hl=>by
 have hp:=List.pairwise_iff_getElem.1 hw.apart;obtain ⟨i,hi,ei⟩:=List.mem_iff_getElem.1 hr;obtain ⟨j,hj,ej⟩:=List.mem_iff_getElem.1 hm;rcases Nat.lt_trichotomy i j with h1|h1|h1
 ·exact (hp i j hi hj h1 b).1 (by rw [ei];exact hl) (by rw [ej];exact hb)
 ·subst h1
  rw [ei] at ej;subst ej;exact hs b hl
 ·exact (hp j i hj hi h1 b).2 (by rw [ei];exact hl) (by rw [ej];exact hb)
def iI (N:Nat) {A:Type} (adr:A->Option Addr) (sz:Nat) (L:A->List (List Value)) (o:List A):Row :=
 .fact N (fun b=>∃ r∈o,sP N (adr r) (L r) b) (fun w=>∀ r∈o,aE w (adr r) sz (L r)) fun w w' h hw r hr=>sX w w' (fun b hb=>h b (hb.imp id fun hb=>⟨r,hr,hb⟩)) (hw r hr)
section
variable {A:Type}{adr:A->Option Addr}{sz N:Nat}{L:A->List (List Value)}{o o':List A}
theorem Sat.fam {w0 w:World} (h:Sat w0 M w) (hm:iI N adr sz L o∈M):∀ r∈o,aE w (adr r) sz (L r):=h.hold _ hm
theorem J.Re (adr:A->Option Addr) (sz:Nat) (L:A->List (List Value)) (h:J C st (iI C.w0.heap.size adr sz L []::M) k):J C st M k:=.mk fun a w hf hd hw =>
 h.go a w hf hd (hw.addFact (Nat.le_refl _) (fun r hr=>by cases hr) fun b hb=>by obtain ⟨r,hr,_⟩:=hb;cases hr)
theorem Sat.famSub {w0 w:World} (hw:Sat w0 M w) (hm:iI N adr sz L o∈M) (hs:∀ r∈o',r∈o):Sat w0 (iI N adr sz L o'::M) w:=by
 have ho:=hw.old _ hm;refine hw.addFact ho.1 (fun r hr=>hw.fam hm r (hs r hr)) fun b hb=>?_
 obtain ⟨r,hr,h1⟩:=hb;have h2:(iI N adr sz L o).sup b:=⟨r,hs r hr,h1⟩;exact ⟨(ho.2 b h2).1,(ho.2 b h2).2,fun r' hr'=>hw.noLock hm (fun _ h=>h) hr' h2⟩
theorem Sat.famAdd {w0 w:World} (hw:Sat w0 M w) {r:A} (hm:iI N adr sz L o∈M) (hr:aL N (adr r) sz (L r)∈M):Sat w0 (iI N adr sz L (o++[r])::M) w:=by
 have ho:=hw.old _ hm;have hp:=hw.old _ hr;refine hw.addFact ho.1 (fun r' hr'=>?_) fun b hb=>?_
 ·rcases List.mem_append.1 hr' with h|h
  ·exact hw.fam hm r' h
  ·rw [List.mem_singleton.1 h];exact hw.sl hr
 ·obtain ⟨r',hr',h1⟩:=hb
  rcases List.mem_append.1 hr' with h|h
  ·have h2:(iI N adr sz L o).sup b:=⟨r',h,h1⟩
   exact ⟨(ho.2 b h2).1,(ho.2 b h2).2,fun r'' hr''=>hw.noLock hm (fun _ h=>h) hr'' h2⟩
  ·rw [List.mem_singleton.1 h] at h1
   have h2:(aL N (adr r) sz (L r)).sup b:=h1;exact ⟨(hp.2 b h2).1,(hp.2 b h2).2,fun r'' hr''=>hw.noLock hr (fun _ h=>h) hr'' h2⟩
theorem J.famSub (hm:iI N adr sz L o∈M) (hs:∀ r∈o',r∈o) (h:J C st (iI N adr sz L o'::M) k):J C st M k:=.mk fun a w hf hd hw=>h.go a w hf hd (hw.famSub hm hs)
theorem J.famAdd {r:A} (hm:iI N adr sz L o∈M) (hr:aL N (adr r) sz (L r)∈M) (h:J C st (iI N adr sz L (o++[r])::M) k):J C st M k:=.mk fun a w hf hd hw=>h.go a w hf hd (hw.famAdd hm hr)
end
theorem cB.flat {A:Type}{f:A->List Value}{sz b tot:Nat}{e:TypeId}{l:List A} (hf:∀ x,(f x).length=sz) (h1:∀ x,(f x).all (·.oneCell')=true) (hm:Row.blk b e (Sl.flat f l) tot∈M):cB C M (some ⟨b,0,none⟩) l.length sz (Sl.flat f l) where
 len:=aO hf l
 one:=by
  refine List.all_eq_true.2 fun v hv=>?_
  obtain ⟨cs,hcs,hv⟩:=List.mem_flatten.1 hv;obtain ⟨x,_,rfl⟩:=List.mem_map.1 hcs;exact List.all_eq_true.1 (h1 x) v hv
 nil:=fun e=>by cases e
 go:=fun ad ha w hw j u hj=>by
  cases ha;have:=hw.cellBlk hm hj;rw [dS];simpa [dV] using this
theorem LdV.flat {A:Type}{f:A->List Value}{sz b tot i n:Nat}{e T:TypeId}{l:List A}{p:A} [hT:gZ C.P T n] (hf:∀ x,(f x).length=n) (hm:Row.blk b e (Sl.flat f l) tot∈M) (hp:l[i]?=some p) (hsz:sz=n):LdV C M T ⟨b,0+i*sz,none⟩ (.agg (f p).toArray) :=
 LdV.agg (hf _) (iT.of fun j v hv=>by
  subst hsz;obtain ⟨hi,rfl⟩:=List.getElem?_eq_some_iff.1 hp;have hj:j < sz:=by rw [<- hf l[i]];exact (List.getElem?_eq_some_iff.1 hv).1
  rw [Nat.zero_add];exact aC.blk hm (by rw [gC hf hi hj];exact hv))
theorem Sat.ownOpen {w0 w:World} (hw:Sat w0 M w) {base E size n:Nat}{v:Value}{xs:List Value}{F:Row->List Row} (hm:RAt (.own base v E size n xs) M F) (h0:0 < n):∃ g cap,n<=cap/\cap<=maxLen/\v=.slice (some ⟨g,0,none⟩) n cap/\Sat w0 (F (.blk g E xs (cap*size))) w:=by
 obtain ⟨i,h1,h2⟩:=hm.idx;obtain ⟨hl,hv⟩:=hw.hold _ (List.mem_of_getElem? h1);rcases hv with ⟨_,h3⟩|⟨g,cap,cur,rfl,_,h4,h5,h6,h7,h8⟩
 ·omega
 ·refine ⟨g,cap,h5,h6,rfl,h2 _ ▸ hw.swap h1 (r':=.blk g E xs (cap*size)) ⟨cur.toList.drop (n*size),?_,?_⟩ rfl fun b hb=>?_⟩
  ·rw [h4,<- h8,List.take_append_drop]
  ·rw [hl,List.length_drop,Array.length_toList,h7]
   have:=Nat.mul_le_mul_right size h5;omega
  ·cases hb;rfl
theorem G.ownOpen {base E size n:Nat}{v:Value}{xs:List Value}{F:Row->List Row} (hm:RAt (.own base v E size n xs) M F) (h0:0 < n) (h:∀ g cap,n<=cap->cap<=maxLen->v=.slice (some ⟨g,0,none⟩) n cap->G .seq C all st (F (.blk g E xs (cap*size))) rest k):G .seq C all st M rest k :=
 ⟨fun a w hf hd hw=>let ⟨g,cap,h1,h2,h3,h4⟩:=hw.ownOpen hm h0;(h g cap h1 h2 h3).go a w hf hd h4⟩
theorem J.ownOpen {base E size n:Nat}{v:Value}{xs:List Value}{F:Row->List Row} (hm:RAt (.own base v E size n xs) M F) (h0:0 < n) (h:∀ g cap,n<=cap->cap<=maxLen->v=.slice (some ⟨g,0,none⟩) n cap->J C st (F (.blk g E xs (cap*size))) k):J C st M k :=
 .mk fun a w hf hd hw=>let ⟨g,cap,h1,h2,h3,h4⟩:=hw.ownOpen hm h0;(h g cap h1 h2 h3).go a w hf hd h4
theorem J.PZ {g cap E size:Nat} (m:Nat) {cs xs:List Value}{F:Row->List Row} (hm:RAt (.blk g E cs (cap*size)) M F) (h1:m<=cap) (h2:cap<=maxLen) (h3:m*size<=cs.length) (h4:cs.take (m*size)=xs) (h:J C st (F (.own 0 (.slice (some ⟨g,0,none⟩) m cap) E size m xs)) k):J C st M k:=.mk fun a w hf hd hw=>by
 obtain ⟨i,h5,h6⟩:=hm.idx;obtain ⟨rest,h7,h8⟩:=hw.hold _ (List.mem_of_getElem? h5);rw [<- h6] at h
 refine h.go a w hf hd (hw.swap h5 (r':=.own 0 (.slice (some ⟨g,0,none⟩) m cap) E size m xs) ?_ rfl fun b hb=>?_)
 ·subst h4
  refine ⟨by rw [List.length_take];omega,.inr ⟨g,cap,_,rfl,Nat.zero_le _,h7,h1,h2,by simp [h8],?_⟩⟩
  rw [List.take_append_of_le_length h3]
 ·cases hb;rfl
theorem wA {A:Type}{f:A->List Value}{sz:Nat} (hf:∀ x,(f x).length=sz):∀ (l:List A) (m:Nat),(flat f l).take (m*sz)=flat f (l.take m)
 | [],m=>by simp [flat]
 | x::l,0=>by simp [flat]
 | x::l,m+1=>by
  rw [fA,List.take_succ_cons,fA,Nat.succ_mul,Nat.add_comm,<- hf x,List.take_length_add_append,hf x,wA hf l m]
theorem J.blkCut {A:Type}{f:A->List Value}{g cap E size:Nat}{l l':List A} (m:Nat) {F:Row->List Row} (hf:∀ x,(f x).length=size) (hm:RAt (.blk g E (flat f l) (cap*size)) M F) (h1:m<=cap) (h2:cap<=maxLen) (h3:m<=l.length) (h4:l.take m=l') (h:J C st (F (.own 0 (.slice (some ⟨g,0,none⟩) m cap) E size m (flat f l'))) k):J C st M k:=by
 subst h4;exact J.PZ m hm h1 h2 (by rw [aO hf];exact Nat.mul_le_mul_right _ h3) (wA hf l m) h
theorem G.R4 {T E sz:Nat}{x hi:Operand}{b o n c len:Nat}{k2:IntKind}{e2:Int} (hx:evS st x=some (.slice (some ⟨b,o,none⟩) n c)) (hhi:evS st hi=some (.int k2 e2)) (he2:e2=(len:Int)) (h2:len<=c) (h3:0 < c) [hT:bN C.P T E sz] (hs:bA all st gd d C.N q.calm=some q') (hh:G q' C all ((d,.slice (some ⟨b,o,none⟩) len c)::st) M rest k) :
  G q C all st M ({ dst:=some d,op:=.slice T x none (some hi) none,type:=ty,pos,after,guard:=gd }::rest) k:=by
 obtain ⟨g1,g2,g3⟩:=aJ hs;refine G.sliceTo hx hhi he2 h2 g1 g2 g3 ?_;rw [oZ,if_neg om,Option.map_some,dS,dV,Nat.zero_mul,Nat.add_zero];exact hh
end Go.Sl
/-
 Rows that are taken out of a list in another order,the others dropped.
-/
namespace Go.Sl
open Go.RowKit
variable {C:Ctx}{st:List (Nat×Value)}{M:List Row}{k:List Item}
inductive Sel:List Row->List Row->Prop
 | refl {M:List Row}:Sel M M
 | cons {r:Row}{T M M1:List Row} (h:eS r M M1) (h2:Sel T M1):Sel (r::T) M
 | drop {s:Row}{T M:List Row} (h:Sel T M):Sel T (s::M)
theorem Sel.perm {T M:List Row} (h:Sel T M):∃ E,M.Perm (E++T):=by
 induction h with
 | refl=>exact ⟨[],.refl _⟩
 | cons h _ ih =>
  obtain ⟨E,h3⟩:=ih;exact ⟨E,h.perm.trans ((List.Perm.cons _ h3).trans List.perm_middle.symm)⟩
 | @drop s T M _ ih =>
  obtain ⟨E,h3⟩:=ih;exact ⟨s::E,List.Perm.cons _ h3⟩
theorem Sat.sel {w0 w:World}{T:List Row} (hw:Sat w0 M w) (h:Sel T M:=by (repeat' (first|exact Sel.refl|(refine Sel.cons (by (repeat (first|exact eS.head|apply eS.tail))) ?_)|apply Sel.drop))):Sat w0 T w:=by
 obtain ⟨E,h3⟩:=h.perm;exact (hw.perm h3).forget (List.sublist_append_right _ _)
theorem J.sel {T:List Row} (h:J C st T k) (hs:Sel T M:=by (repeat' (first|exact Sel.refl|(refine Sel.cons (by (repeat (first|exact eS.head|apply eS.tail))) ?_)|apply Sel.drop))):J C st M k :=
 .mk fun a w hf hd hw=>h.go a w hf hd (hw.sel hs)
theorem J.P1 {st':List (Nat×Value)}{T:List Row} (h:J C st' T k) (hs:Sub st st':=by (repeat' (first|exact trivial|refine ⟨rfl,?_⟩))) (hM:Sel T M:=by (repeat' (first|exact Sel.refl|(refine Sel.cons (by (repeat (first|exact eS.head|apply eS.tail))) ?_)|apply Sel.drop))):J C st M k:=J.sel (J.sub hs h) hM
end Go.Sl
/-
 Appends in regions that fork,and a stretch of a list.
-/
namespace Go.Sl
open Go.RowKit
variable {C:Ctx}{st:List (Nat×Value)}{M:List Row}{k:List Item}{q q':Md}{all rest:List Oper}{d:Nat}{opn:Op}{ty:TypeId}{pos:String}{after:Array Edge}{gd:Option (Nat×Bool)}
theorem G.Ri {i:Nat}{p:Pt}{o:Option Nat}{M0:List Row} (hg:wnB all st gd=true)
  (h:Eff C st M { dst:=o,op:=opn,type:=ty,pos,after,guard:=gd } fun st' M'=>M0.Sublist M'/\G (.anys M0 p) C all st' M' rest k) :
  G (.ones M0 i p) C all st M ({ dst:=o,op:=opn,type:=ty,pos,after,guard:=gd }::rest) k:=by
 refine ⟨fun _ hl hsel listed hdc hr hp a w hf hdf hw=>?_⟩
 obtain ⟨ho,hl'⟩:=bS hl;refine ⟨_,ho,?_⟩;rw [if_pos ((Wn.PF (N:=C.N) hg).go a hf _ _ _ _ _)];refine h a w hf hw _ fun st' M' a' w' hp2 hf' hd' hw'=>?_
 exact ⟨Sat C.w0 M0,jN.PE _ _,hw'.forget hp2.1,.inl fun u hu=>hu,hp2.2.go hp2.1 hl' hsel _ (hdc.set hr) hp a' w' hf' (hd'.trans hdf) hw'⟩
def sdB (all:List Oper) (st:List (Nat×Value)) (gd:Option (Nat×Bool)) (d N:Nat):Bool:=wnB all st gd && Nat.blt d N
theorem G.RE {T ty' E bytes size n m c base:Nat}{z v:Value}{x y:Operand}{a:Option Addr}{xs news cs:List Value}{F:Row->List Row}{M0:List Row} (hs:sdB all st gd d C.N=true) (hq:q.sto=some (M0,q'))
  (hx:evS st x=some v) (hy:evS st y=some (.slice a m c)) (hm:RAt (.own base v E size n xs) M F) [hT:cZ C.P T E z size bytes] (hsrc:cB C M a m size news) (hcs:xs++news=cs) (hb:(n+m)*bytes<=140737488355328) (hnm:n+m<=9223372036854775807)
  (h:∀ v',M0.Sublist (F (.own 0 v' E size (n+m) cs))/\G q' C all ((d,v')::st) (F (.own 0 v' E size (n+m) cs)) rest k) :
  G q C all st M ({ dst:=some d,op:=.call { callee:=.builtin .append,args:=#[x,y],argTypes:=#[T,T] },type:=ty',pos,after,guard:=gd }::rest) k:=by
 rw [sdB,Bool.and_eq_true] at hs;obtain ⟨i,h1,h2⟩:=hm.idx;exact G.Q2 hs.1 hs.2 hq hx h1 hy hsrc hcs hb hnm (fun v'=>by rw [h2];exact (h v').1) fun v'=>by rw [h2];exact (h v').2
theorem G.Rx {i:Nat}{p:Pt}{T ty' E bytes size n m c base:Nat}{z v:Value}{x y:Operand}{a:Option Addr}{xs news cs:List Value}{F:Row->List Row}{M0:List Row} (hs:sdB all st gd d C.N=true)
  (hx:evS st x=some v) (hy:evS st y=some (.slice a m c)) (hm:RAt (.own base v E size n xs) M F) [hT:cZ C.P T E z size bytes] (hsrc:cB C M a m size news) (hcs:xs++news=cs) (hb:(n+m)*bytes<=140737488355328) (hnm:n+m<=9223372036854775807)
  (h:∀ v',M0.Sublist (F (.own 0 v' E size (n+m) cs))/\G (.anys M0 p) C all ((d,v')::st) (F (.own 0 v' E size (n+m) cs)) rest k) :
  G (.ones M0 i p) C all st M ({ dst:=some d,op:=.call { callee:=.builtin .append,args:=#[x,y],argTypes:=#[T,T] },type:=ty',pos,after,guard:=gd }::rest) k:=by
 rw [sdB,Bool.and_eq_true] at hs;obtain ⟨j,h1,h2⟩:=hm.idx;subst hcs;refine G.Ri hs.1 (Eff.val hs.2 fun ac w hf hw=>?_)
 obtain ⟨v',w',h3,h4⟩:=lG (T:=T) (dst:=some d) (ty':=ty') (pos:=pos) (after:=after) (gd:=gd) hf hw hx h1 hy hsrc hb hnm;exact ⟨v',w',_,h3,h4,by rw [h2];exact (h v').1,by rw [h2];exact (h v').2⟩
theorem aE.seg {A:Type}{f:A->List Value}{sz:Nat}{l:List A}{w:World}{b o:Nat} (h:∀ i (hi:i < l.length),bG w b (o+i*sz) (f l[i])) (p n:Nat) (hp:p+n<=l.length):aE w (some ⟨b,o+p*sz,none⟩) sz (((l.drop p).take n).map f):=fun _ =>
 ⟨b,o+p*sz,rfl,fun i cs hi=>by
  rw [List.getElem?_map,List.getElem?_take] at hi;split at hi
  ·rename_i hin
   rw [List.getElem?_drop,gE (show p+i < l.length by omega)] at hi
   cases hi;have:=h (p+i) om;rw [Nat.add_mul,<- Nat.add_assoc] at this;exact this
  ·cases hi⟩
theorem Row.not_lt {N:Nat}:¬ N < N:=Nat.lt_irrefl N
theorem cB.pre {b n:Nat}{e:TypeId}{cs:List Value}{tot:Nat} (hm:Row.blk b e cs tot∈M) (hn:n<=cs.length) (h1:cs.all (·.oneCell')=true):cB C M (some ⟨b,0,none⟩) n 1 (cs.take n) where
 len:=by rw [List.length_take];omega
 one:=List.all_eq_true.2 fun v hv=>List.all_eq_true.1 h1 v (List.mem_of_mem_take hv)
 nil:=fun ha=>by cases ha
 go:=fun ad ha w hw j u hj=>by
  cases ha;rw [dS,dV,Nat.zero_add];refine hw.cellBlk hm ?_;rw [List.getElem?_take] at hj;split at hj
  ·exact hj
  ·cases hj
theorem G.QN {T E bytes size:Nat}{z:Value} (hs:bA all st gd d C.N q.ext=some q') [hT:cZ C.P T E z size bytes]
  (h:∀ B,G q' C all ((d,.slice (some ⟨B,0,none⟩) 0 0)::st) (.own 0 (.slice (some ⟨B,0,none⟩) 0 0) E size 0 []::M) rest k) :
  G q C all st M ({ dst:=some d,op:=.buildSlice T 0 #[],type:=ty,pos,after,guard:=gd }::rest) k:=by
 obtain ⟨g1,g2,g3⟩:=aJ hs;refine G.ext g1 rfl g3 (Eff.val g2 fun a w hf hw=>⟨_,w.alloc (.cells #[] E),_,?_,?_,List.sublist_cons_self _ _,h w.heap.size⟩)
 ·obtain ⟨inf,hi,hzz,hsize,hby⟩:=info_parts hT.h2
  have hu:C.P.underlying T=some (.slice E):=hT.h1;simp [execOp,Instr.buildSlice,run_underlying hu,sizeOf,typeInfo,hi,newRow,Instr.fill];have e:Array.range 0=#[]:=Array.ext' (by simp)
  rw [e,Array.map_empty]
 ·have h1:=hw.alloc E []
  refine h1.swap (i:=0) (r:=.blk w.heap.size E [] 0) (r':=.own 0 (.slice (some ⟨w.heap.size,0,none⟩) 0 0) E size 0 []) rfl ?_ rfl fun b hb=>?_
  ·obtain ⟨rest,h7,h8⟩:=h1.hold _ (List.mem_cons_self ..)
   exact ⟨by simp,.inr ⟨w.heap.size,0,_,rfl,Nat.zero_le _,h7,Nat.zero_le _,Nat.zero_le _,by simpa using h8,by simp⟩⟩
  ·cases hb;rfl
theorem G.PS {base E size n:Nat}{v:Value}{xs:List Value}{F:Row->List Row} (hm:RAt (.own base v E size n xs) M F) (h:∀ a c,v=.slice a n c->G .seq C all st M rest k):G .seq C all st M rest k :=
 ⟨fun a w hf hd hw=>by
  obtain ⟨i,h1,_⟩:=hm.idx;obtain ⟨_,hv⟩:=hw.hold _ (List.mem_of_getElem? h1);rcases hv with ⟨rfl,hn⟩|⟨g,cap,cur,rfl,_⟩
  ·subst hn;exact (h none 0 rfl).go a w hf hd hw
  ·exact (h _ _ rfl).go a w hf hd hw⟩
end Go.Sl
/-
 Digits to the base 2^32 and bytes: how a number is read from its bytes and written as bytes.
-/
namespace Go.Num
abbrev B32:Nat:=4294967296
theorem Fy:(256:Nat) ^ 4=B32:=by decide
def by4 (d:Nat):List Nat:=[d % 256,d / 256 % 256,d / 65536 % 256,d / 16777216 % 256]
theorem Nr {d:Nat} (h:d < B32):vL 256 (by4 d)=d:=by
 simp only [by4,vL,B32] at *;omega
theorem GN {B:Nat} (hB:256 ^ 4=B) (h4:∀ d,d < B->vL 256 (by4 d)=d):∀ x:List Nat,(∀ d∈x,d < B)->vL 256 (x.flatMap by4)=vL B x
 | [],_=>rfl
 | d::r,h=>by
  have e:(by4 d).length=4:=rfl;rw [List.flatMap_cons,fS,h4 d (h d (.head _)),GN hB h4 r fun y hy=>h y (.tail _ hy),e,hB,vL]
theorem Ns {d x:Nat} (h:x∈by4 d):x < 256:=by
 simp only [by4,List.mem_cons,List.not_mem_nil,or_false] at h
 omega
theorem Lw {x:List Nat} (h:∀ d∈x,d < B32) {l:List UInt8} (hl:l.map UInt8.toNat=(x.flatMap by4).reverse):l.dropWhile (· == 0)=nB (vL B32 x):=by
 rw [mX,vW,List.map_reverse,hl,List.reverse_reverse,GN Fy (fun d h=>Nr h) x h]
theorem HU (l:List UInt8) {e:Nat} (he:e<=l.length):vB (l.take e)=vB (l.take (e-4))*256 ^ (e-(e-4))+vB ((l.drop (e-4)).take (e-(e-4))):=by
 have h:l.take e=l.take (e-4)++(l.drop (e-4)).take (e-(e-4)):=by
  rw [<- List.take_add];congr 1;omega
 rw [h,lC];congr 2;rw [List.length_take,List.length_drop];congr 1;omega
theorem HV {B:Nat} (hB:256 ^ 4=B) (l:List UInt8) {x:List Nat}{k:Nat} (hk:x.length=k) (h4:4*k < l.length) (h:vL B x+B ^ k*vB (l.take (l.length-4*k))=vB l) :
  vL B (x++[vB ((l.drop (l.length-4*k-4)).take (l.length-4*k-(l.length-4*k-4)))])+B ^ (k+1)*vB (l.take (l.length-4*(k+1)))=vB l /\
  vB ((l.drop (l.length-4*k-4)).take (l.length-4*k-(l.length-4*k-4))) < B:=by
 have hs:=HU l (e:=l.length-4*k) om;refine ⟨?_,?_⟩
 ·rw [yK,hk,<- h,hs]
  have e1:l.length-4*(k+1)=l.length-4*k-4:=by omega
  rw [e1];generalize hv:vB ((l.drop (l.length-4*k-4)).take (l.length-4*k-(l.length-4*k-4)))=v;by_cases h5:4<=l.length-4*k
  ·have e2:l.length-4*k-(l.length-4*k-4)=4:=by omega
   rw [e2,Nat.pow_succ,Nat.mul_add,Nat.mul_assoc,Nat.mul_comm B,hB];omega
  ·have e3:l.length-4*k-4=0:=by omega
   rw [e3];simp [vB]
 ·have:=uD ((l.drop (l.length-4*k-4)).take (l.length-4*k-(l.length-4*k-4)))
  have h6:((l.drop (l.length-4*k-4)).take (l.length-4*k-(l.length-4*k-4))).length<=4:=by
   rw [List.length_take];omega
  have h7:256 ^ ((l.drop (l.length-4*k-4)).take (l.length-4*k-(l.length-4*k-4))).length<=256 ^ 4:=Nat.pow_le_pow_right om h6;omega
theorem Jj {B:Nat} (l:List UInt8) {x:List Nat}{k:Nat} (h4:l.length<=4*k) (h:vL B x+B ^ k*vB (l.take (l.length-4*k))=vB l):vL B x=vB l:=by
 rw [show l.length-4*k=0 by omega] at h
 simpa [vB] using h
theorem Eo (b:Nat) {x:List Nat}{i n:Nat} (h:i+n<=x.length):vL b (x.drop i)=vL b ((x.drop i).take n)+b ^ n*vL b (x.drop (i+n)):=by
 have h1:=mW b (x.drop i) n;rw [List.drop_drop,List.length_drop,Nat.min_eq_left om] at h1;exact h1
theorem CQ (b:Nat) {x:List Nat}{i n:Nat} (hn:1<=n) (h:i+n+1<=x.length):vL b ((x.drop i).take (n+1))=vL b ((x.drop i).take (n-1))+b ^ (n-1)*(x.getD (i+n) 0*b+x.getD (i+n-1) 0):=by
 obtain ⟨m,rfl⟩:∃ m,n=m+1:=⟨n-1,by omega⟩
 have e:∀ k,(x.drop i).getD k 0=x.getD (i+k) 0:=fun k=>by simp [gD]
 rw [bT,bT,e,e,Nat.add_sub_cancel,Nat.pow_succ,Nat.mul_add,show i+(m+1)-1=i+m by omega,Nat.mul_assoc,Nat.mul_comm b (x.getD _ _)]
 omega
structure Kn (B V:Nat) (v rho:List Nat) (i n:Nat) where
 hB:2<=B
 hv:vL B v=V
 hvl:v.length=n
 hvd:∀ d∈v,d < B
 hn:2<=n
 hrd:∀ d∈rho,d < B
 hlen:i+n+1<=rho.length
 hlt:vL B (rho.drop (i+1)) < V
variable {B V:Nat}{v rho:List Nat}{i n:Nat}
theorem Kn.vlt (h:Kn B V v rho i n):V < B ^ n:=by
 rw [<- h.hv,<- h.hvl];exact fT (by have:=h.hB;omega) v h.hvd
theorem Kn.above (h:Kn B V v rho i n):vL B (rho.drop (i+n+1))=0:=by
 have h1:=Eo B (x:=rho) (i:=i+1) (n:=n) (by have:=h.hlen;omega)
 have h2:=h.hlt;have h3:=h.vlt;rw [show i+1+n=i+n+1 by omega] at h1
 rcases Nat.eq_zero_or_pos (vL B (rho.drop (i+n+1))) with h4|h4
 ·exact h4
 ·have:B ^ n*1<=B ^ n*vL B (rho.drop (i+n+1)):=Nat.mul_le_mul_left _ h4
  omega
theorem Kn.part (h:Kn B V v rho i n):vL B ((rho.drop i).take (n+1))=vL B (rho.drop i):=by
 have h1:=Eo B (x:=rho) (i:=i) (n:=n+1) (by have:=h.hlen;omega)
 rw [show i+(n+1)=i+n+1 by omega,h.above,Nat.mul_zero,Nat.add_zero] at h1
 exact h1.symm
theorem Kn.lt (h:Kn B V v rho i n):vL B (rho.drop i) < B*V:=by
 have h1:=gG (b:=B) (x:=rho) (k:=i) (by have:=h.hlen;omega)
 have h2:=bZ (by have:=h.hB;omega) h.hrd i
 have h3:B*(vL B (rho.drop (i+1))+1)<=B*V:=Nat.mul_le_mul_left _ h.hlt;rw [Nat.mul_add] at h3;omega
theorem Kn.vpos (h:Kn B V v rho i n):0 < V:=Nat.lt_of_le_of_lt (Nat.zero_le _) h.hlt
theorem Kn.qlt (h:Kn B V v rho i n):vL B (rho.drop i) / V < B:=Nat.div_lt_of_lt_mul (by rw [Nat.mul_comm];exact h.lt)
theorem GO (b:Nat) {v:List Nat}{n:Nat} (hn:2<=n) (hl:v.length=n):vL b v=vL b (v.take (n-2))+b ^ (n-2)*(v.getD (n-1) 0*b+v.getD (n-2) 0):=by
 have h1:=CQ b (x:=v) (i:=0) (n:=n-1) om om;rw [List.drop_zero,Nat.zero_add,List.take_of_length_le om] at h1;rw [h1,show n-1-1=n-2 by omega]
theorem Kn.guess (h:Kn B V v rho i n):vL B (rho.drop i) / V*v.getD (n-1) 0<=rho.getD (i+n) 0*B+rho.getD (i+n-1) 0:=by
 have hn:=h.hn;have hB:=h.hB;refine Nn (V:=V) (p:=B ^ (n-1)) (R:=vL B (rho.drop i)) ?_ ?_ (Nat.div_mul_le_self _ _)
 ·rw [<- h.hv,GO B hn h.hvl,show n-1=(n-2)+1 by omega,Nat.pow_succ,show n-2+1=n-1 by omega,Nat.mul_add,Nat.mul_comm (v.getD _ _),Nat.mul_assoc,Nat.mul_comm B]
  omega
 ·rw [<- h.part,CQ B om (by have:=h.hlen;omega)]
  have h1:=fT (b:=B) om ((rho.drop i).take (n-1)) fun d hd=>h.hrd d (List.mem_of_mem_drop (List.mem_of_mem_take hd))
  rw [List.length_take,List.length_drop,Nat.min_eq_left (by have:=h.hlen;omega)] at h1
  rw [Nat.add_mul,Nat.one_mul,Nat.mul_comm (B ^ (n-1))];omega
theorem Kn.second (h:Kn B V v rho i n) {l g:Nat} (hl:l+g*v.getD (n-1) 0=rho.getD (i+n) 0*B+rho.getD (i+n-1) 0) (hg:l*B+rho.getD (i+n-2) 0 < g*v.getD (n-2) 0):vL B (rho.drop i) / V < g:=by
 have hn:=h.hn;have hB:=h.hB;refine Ls rfl h.vpos (HQ (b:=B) (p:=B ^ (n-2)) ?_ ?_ hl hg)
 ·rw [<- h.hv,GO B hn h.hvl,Nat.mul_comm (B ^ (n-2))]
  omega
 ·rw [<- h.part,CQ B om (by have:=h.hlen;omega)]
  obtain ⟨m,rfl⟩:∃ m,n=m+2:=⟨n-2,by omega⟩
  have e:(rho.drop i).getD m 0=rho.getD (i+m) 0:=by simp [gD]
  rw [show m+2-1=m+1 by omega,bT,e,show m+2-2=m by omega,show i+(m+2)-2=i+m by omega]
  have h1:=fT (b:=B) om ((rho.drop i).take m) fun d hd=>h.hrd d (List.mem_of_mem_drop (List.mem_of_mem_take hd))
  rw [List.length_take,List.length_drop,Nat.min_eq_left (by have:=h.hlen;omega)] at h1
  generalize rho.getD (i+(m+2)) 0*B+rho.getD (i+(m+2)-1) 0=t;rw [Nat.add_mul,Nat.add_mul,Nat.one_mul,Nat.pow_succ,Nat.mul_comm (rho.getD _ _),Nat.mul_assoc,Nat.mul_comm B t,Nat.mul_comm (B ^ m) (t*B)];omega
def gI (rho:List Nat) (i n:Nat) (d:List Nat):List Nat:=rho.take i++(d++List.replicate (n+1-d.length) 0)++rho.drop (i+n+1)
theorem Ep (b:Nat):∀ k,vL b (List.replicate k 0)=0
 | 0=>rfl
 | k+1=>by rw [List.replicate_succ,vL,Ep b k];simp
theorem Kn.put (h:Kn B V v rho i n) {q:Nat} (hq:q=vL B (rho.drop i) / V) {d:List Nat} (hd:∀ x∈d,x < B) (hdl:d.length<=n+1) (hdv:vL B d=vL B (rho.drop i)-q*V) :
  (gI rho i n d).length=rho.length/\(∀ x∈gI rho i n d,x < B)/\vL B ((gI rho i n d).drop i) < V/\vL B (gI rho i n d)+B ^ i*(q*V)=vL B rho:=by
 have hlen:=h.hlen;have hp:=h.vpos;have hmod:vL B d < V:=by
  rw [hdv,hq];have h1:=Nat.div_add_mod (vL B (rho.drop i)) V;have h2:=Nat.mod_lt (vL B (rho.drop i)) hp;rw [Nat.mul_comm] at h1;omega
 have hqle:q*V<=vL B (rho.drop i):=by rw [hq];exact Nat.div_mul_le_self _ _
 have hdr:(gI rho i n d).drop i=(d++List.replicate (n+1-d.length) 0)++rho.drop (i+n+1):=by
  rw [gI,List.append_assoc,List.drop_append,List.length_take,Nat.min_eq_left om,List.drop_of_length_le (by rw [List.length_take];omega)]
  simp
 have hvd:vL B ((gI rho i n d).drop i)=vL B d:=by
  rw [hdr,fS,fS,Ep,h.above];simp
 refine ⟨?_,?_,by rw [hvd];exact hmod,?_⟩
 ·simp only [gI,List.length_append,List.length_take,List.length_replicate,List.length_drop];omega
 ·intro x hx
  simp only [gI,List.mem_append] at hx;rcases hx with (hx|hx|hx)|hx
  ·exact h.hrd x (List.mem_of_mem_take hx)
  ·exact hd x hx
  ·have:=List.eq_of_mem_replicate hx;have:=h.hB;omega
  ·exact h.hrd x (List.mem_of_mem_drop hx)
 ·have h1:=mW B (gI rho i n d) i
  have h2:=mW B rho i;have h3:(gI rho i n d).take i=rho.take i:=by
   rw [gI,List.append_assoc,List.take_append,List.length_take,Nat.min_eq_left om,Nat.sub_self,List.take_zero,List.append_nil,List.take_take];simp
  have h4:(gI rho i n d).length=rho.length:=by
   simp only [gI,List.length_append,List.length_take,List.length_replicate,List.length_drop];omega
  rw [h4,Nat.min_eq_left om,h3,hvd,hdv] at h1;rw [Nat.min_eq_left om] at h2;rw [h1,h2,Nat.add_assoc,<- Nat.mul_add];congr 2;omega
end Go.Num
