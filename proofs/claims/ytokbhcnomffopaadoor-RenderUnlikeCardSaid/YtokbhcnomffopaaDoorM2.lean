/- Part 2 of the texts below the theorem of the last part. -/
import Derived.Test.YtokbhcnomffopaaDoorProg
import Derived.KernelRfl
import Derived.Laws.OwnMore
import Derived.Laws.CopyRow
import Derived.Laws.IdiomCopy
import Derived.Laws.Small
import Derived.Lib.RuneCount
import Derived.Lib.MapU
import Derived.Lib.IndexMore
import Derived.Lib.ValidU
import Derived.Shelf.Strings.Cut
import Derived.Shelf.Utf8.RuneCount
import Derived.Shelf.Unicode.ValidAny
import Derived.Shelf.Strings.MapGrows
import Derived.Test.YtokbhcnomffopaaDoorM1
section
/- The seat's types and functions, as QL asks them. Printed by gen_facts.py. -/
set_option linter.unusedVariables false
namespace Go.Proofs.YtokbhcnomffopaaDoor
open Go Go.QL
instance ty1 : TyC Tryd.prog 1 false .nilFunc [.nilf] 1 8 := ⟨⟨⟨_, Tryd.underlying1, rfl⟩, by kernel_rfl⟩, rfl, rfl⟩
instance ty2 : TyC Tryd.prog 2 false (.int .i64 0) [.int .i64 0] 1 8 := ⟨⟨⟨_, Tryd.underlying2, rfl⟩, by kernel_rfl⟩, rfl, rfl⟩
instance : IntC Tryd.prog 2 .i64 := ⟨Tryd.underlying2⟩
instance ty3 : TyC Tryd.prog 3 false (.int .i64 0) [.int .i64 0] 1 8 := ⟨⟨⟨_, Tryd.underlying3, rfl⟩, by kernel_rfl⟩, rfl, rfl⟩
instance : IntC Tryd.prog 3 .i64 := ⟨Tryd.underlying3⟩
instance ty4 : TyC Tryd.prog 4 false (.bool false) [.bool false] 1 1 := ⟨⟨⟨_, Tryd.underlying4, rfl⟩, by kernel_rfl⟩, rfl, rfl⟩
instance : BoolC Tryd.prog 4 := ⟨Tryd.underlying4⟩
instance ty5 : TyC Tryd.prog 5 false (.int .u8 0) [.int .u8 0] 1 1 := ⟨⟨⟨_, Tryd.underlying5, rfl⟩, by kernel_rfl⟩, rfl, rfl⟩
instance : IntC Tryd.prog 5 .u8 := ⟨Tryd.underlying5⟩
instance ty6 : TyC Tryd.prog 6 false (.int .u8 0) [.int .u8 0] 1 1 := ⟨⟨⟨_, Tryd.underlying6, rfl⟩, by kernel_rfl⟩, rfl, rfl⟩
instance : IntC Tryd.prog 6 .u8 := ⟨Tryd.underlying6⟩
instance ty7 : TyC Tryd.prog 7 true (.agg #[(.int .i64 0), (.int .i64 0), (.bool false), (.int .u8 0)]) [.int .i64 0, .int .i64 0, .bool false, .int .u8 0] 4 24 := ⟨⟨⟨_, Tryd.underlying7, rfl⟩, by kernel_rfl⟩, rfl, rfl⟩
instance ty8 : TyC Tryd.prog 8 true (.agg #[(.int .i64 0), (.int .i64 0), (.bool false), (.int .u8 0)]) [.int .i64 0, .int .i64 0, .bool false, .int .u8 0] 4 24 := ⟨⟨⟨_, Tryd.underlying8, rfl⟩, by kernel_rfl⟩, rfl, rfl⟩
instance ty9 : TyC Tryd.prog 9 false (.string ⟨#[]⟩) [.str ⟨#[]⟩] 1 16 := ⟨⟨⟨_, Tryd.underlying9, rfl⟩, by kernel_rfl⟩, rfl, rfl⟩
instance : StrC Tryd.prog 9 := ⟨Tryd.underlying9⟩
instance ty10 : TyC Tryd.prog 10 false (.string ⟨#[]⟩) [.str ⟨#[]⟩] 1 16 := ⟨⟨⟨_, Tryd.underlying10, rfl⟩, by kernel_rfl⟩, rfl, rfl⟩
instance : StrC Tryd.prog 10 := ⟨Tryd.underlying10⟩
instance ty11 : TyC Tryd.prog 11 false (.string ⟨#[]⟩) [.str ⟨#[]⟩] 1 16 := ⟨⟨⟨_, Tryd.underlying11, rfl⟩, by kernel_rfl⟩, rfl, rfl⟩
instance : StrC Tryd.prog 11 := ⟨Tryd.underlying11⟩
instance ty12 : TyC Tryd.prog 12 false (.int .u64 0) [.int .u64 0] 1 8 := ⟨⟨⟨_, Tryd.underlying12, rfl⟩, by kernel_rfl⟩, rfl, rfl⟩
instance : IntC Tryd.prog 12 .u64 := ⟨Tryd.underlying12⟩
instance ty13 : TyC Tryd.prog 13 true (.agg #[(.string ⟨#[]⟩), (.int .u64 0)]) [.str ⟨#[]⟩, .int .u64 0] 2 24 := ⟨⟨⟨_, Tryd.underlying13, rfl⟩, by kernel_rfl⟩, rfl, rfl⟩
instance ty14 : TyC Tryd.prog 14 true (.agg #[(.string ⟨#[]⟩), (.int .u64 0)]) [.str ⟨#[]⟩, .int .u64 0] 2 24 := ⟨⟨⟨_, Tryd.underlying14, rfl⟩, by kernel_rfl⟩, rfl, rfl⟩
instance ty15 : TyC Tryd.prog 15 false (.pointer none) [.nilp] 1 8 := ⟨⟨⟨_, Tryd.underlying15, rfl⟩, by kernel_rfl⟩, rfl, rfl⟩
instance ty16 : TyC Tryd.prog 16 false (.pointer none) [.nilp] 1 8 := ⟨⟨⟨_, Tryd.underlying16, rfl⟩, by kernel_rfl⟩, rfl, rfl⟩
instance ty17 : TyC Tryd.prog 17 false (.pointer none) [.nilp] 1 8 := ⟨⟨⟨_, Tryd.underlying17, rfl⟩, by kernel_rfl⟩, rfl, rfl⟩
instance ty18 : TyC Tryd.prog 18 true (.agg #[(.pointer none)]) [.nilp] 1 8 := ⟨⟨⟨_, Tryd.underlying18, rfl⟩, by kernel_rfl⟩, rfl, rfl⟩
instance ty19 : TyC Tryd.prog 19 true (.agg #[(.pointer none)]) [.nilp] 1 8 := ⟨⟨⟨_, Tryd.underlying19, rfl⟩, by kernel_rfl⟩, rfl, rfl⟩
instance ty21 : TyC Tryd.prog 21 false (.int .i32 0) [.int .i32 0] 1 4 := ⟨⟨⟨_, Tryd.underlying21, rfl⟩, by kernel_rfl⟩, rfl, rfl⟩
instance : IntC Tryd.prog 21 .i32 := ⟨Tryd.underlying21⟩
instance ty22 : TyC Tryd.prog 22 false (.slice none 0 0) [.nils] 1 24 := ⟨⟨⟨_, Tryd.underlying22, rfl⟩, by kernel_rfl⟩, rfl, rfl⟩
instance : SlC Tryd.prog 22 37 := ⟨Tryd.underlying22⟩
instance ty23 : TyC Tryd.prog 23 false .nilFunc [.nilf] 1 8 := ⟨⟨⟨_, Tryd.underlying23, rfl⟩, by kernel_rfl⟩, rfl, rfl⟩
instance ty24 : TyC Tryd.prog 24 false (.slice none 0 0) [.nils] 1 24 := ⟨⟨⟨_, Tryd.underlying24, rfl⟩, by kernel_rfl⟩, rfl, rfl⟩
instance : SlC Tryd.prog 24 3 := ⟨Tryd.underlying24⟩
instance ty25 : TyC Tryd.prog 25 true (.agg #[(.int .i64 0), (.slice none 0 0), (.int .i64 0), (.slice none 0 0)]) [.int .i64 0, .nils, .int .i64 0, .nils] 4 64 := ⟨⟨⟨_, Tryd.underlying25, rfl⟩, by kernel_rfl⟩, rfl, rfl⟩
instance ty26 : TyC Tryd.prog 26 true (.agg #[(.int .i64 0), (.slice none 0 0), (.int .i64 0), (.slice none 0 0)]) [.int .i64 0, .nils, .int .i64 0, .nils] 4 64 := ⟨⟨⟨_, Tryd.underlying26, rfl⟩, by kernel_rfl⟩, rfl, rfl⟩
instance ty27 : TyC Tryd.prog 27 false (.slice none 0 0) [.nils] 1 24 := ⟨⟨⟨_, Tryd.underlying27, rfl⟩, by kernel_rfl⟩, rfl, rfl⟩
instance : SlC Tryd.prog 27 26 := ⟨Tryd.underlying27⟩
instance ty28 : TyC Tryd.prog 28 false .nilFunc [.nilf] 1 8 := ⟨⟨⟨_, Tryd.underlying28, rfl⟩, by kernel_rfl⟩, rfl, rfl⟩
instance ty29 : TyC Tryd.prog 29 false (.slice none 0 0) [.nils] 1 24 := ⟨⟨⟨_, Tryd.underlying29, rfl⟩, by kernel_rfl⟩, rfl, rfl⟩
instance : SlC Tryd.prog 29 41 := ⟨Tryd.underlying29⟩
instance ty30 : TyC Tryd.prog 30 false .nilFunc [.nilf] 1 8 := ⟨⟨⟨_, Tryd.underlying30, rfl⟩, by kernel_rfl⟩, rfl, rfl⟩
instance ty31 : TyC Tryd.prog 31 false (.slice none 0 0) [.nils] 1 24 := ⟨⟨⟨_, Tryd.underlying31, rfl⟩, by kernel_rfl⟩, rfl, rfl⟩
instance : SlC Tryd.prog 31 48 := ⟨Tryd.underlying31⟩
instance ty33 : TyC Tryd.prog 33 false .nilFunc [.nilf] 1 8 := ⟨⟨⟨_, Tryd.underlying33, rfl⟩, by kernel_rfl⟩, rfl, rfl⟩
instance ty34 : TyC Tryd.prog 34 false .nilFunc [.nilf] 1 8 := ⟨⟨⟨_, Tryd.underlying34, rfl⟩, by kernel_rfl⟩, rfl, rfl⟩
instance ty35 : TyC Tryd.prog 35 false .nilFunc [.nilf] 1 8 := ⟨⟨⟨_, Tryd.underlying35, rfl⟩, by kernel_rfl⟩, rfl, rfl⟩
instance ty36 : TyC Tryd.prog 36 true (.agg #[(.int .i32 0), (.int .i64 0), (.string ⟨#[]⟩)]) [.int .i32 0, .int .i64 0, .str ⟨#[]⟩] 3 32 := ⟨⟨⟨_, Tryd.underlying36, rfl⟩, by kernel_rfl⟩, rfl, rfl⟩
instance ty37 : TyC Tryd.prog 37 true (.agg #[(.int .i32 0), (.int .i64 0), (.string ⟨#[]⟩)]) [.int .i32 0, .int .i64 0, .str ⟨#[]⟩] 3 32 := ⟨⟨⟨_, Tryd.underlying37, rfl⟩, by kernel_rfl⟩, rfl, rfl⟩
instance ty38 : TyC Tryd.prog 38 false .nilFunc [.nilf] 1 8 := ⟨⟨⟨_, Tryd.underlying38, rfl⟩, by kernel_rfl⟩, rfl, rfl⟩
instance ty39 : TyC Tryd.prog 39 false (.slice none 0 0) [.nils] 1 24 := ⟨⟨⟨_, Tryd.underlying39, rfl⟩, by kernel_rfl⟩, rfl, rfl⟩
instance : SlC Tryd.prog 39 81 := ⟨Tryd.underlying39⟩
instance ty40 : TyC Tryd.prog 40 true (.agg #[(.int .i64 0), (.slice none 0 0), (.string ⟨#[]⟩), (.slice none 0 0)]) [.int .i64 0, .nils, .str ⟨#[]⟩, .nils] 4 72 := ⟨⟨⟨_, Tryd.underlying40, rfl⟩, by kernel_rfl⟩, rfl, rfl⟩
instance ty41 : TyC Tryd.prog 41 true (.agg #[(.int .i64 0), (.slice none 0 0), (.string ⟨#[]⟩), (.slice none 0 0)]) [.int .i64 0, .nils, .str ⟨#[]⟩, .nils] 4 72 := ⟨⟨⟨_, Tryd.underlying41, rfl⟩, by kernel_rfl⟩, rfl, rfl⟩
instance ty42 : TyC Tryd.prog 42 false (.int .i64 0) [.int .i64 0] 1 8 := ⟨⟨⟨_, Tryd.underlying42, rfl⟩, by kernel_rfl⟩, rfl, rfl⟩
instance : IntC Tryd.prog 42 .i64 := ⟨Tryd.underlying42⟩
instance ty44 : TyC Tryd.prog 44 false .nilFunc [.nilf] 1 8 := ⟨⟨⟨_, Tryd.underlying44, rfl⟩, by kernel_rfl⟩, rfl, rfl⟩
instance ty45 : TyC Tryd.prog 45 false .nilFunc [.nilf] 1 8 := ⟨⟨⟨_, Tryd.underlying45, rfl⟩, by kernel_rfl⟩, rfl, rfl⟩
instance ty46 : TyC Tryd.prog 46 false .nilFunc [.nilf] 1 8 := ⟨⟨⟨_, Tryd.underlying46, rfl⟩, by kernel_rfl⟩, rfl, rfl⟩
instance ty47 : TyC Tryd.prog 47 true (.agg #[(.slice none 0 0), (.int .i64 0)]) [.nils, .int .i64 0] 2 32 := ⟨⟨⟨_, Tryd.underlying47, rfl⟩, by kernel_rfl⟩, rfl, rfl⟩
instance ty48 : TyC Tryd.prog 48 true (.agg #[(.slice none 0 0), (.int .i64 0)]) [.nils, .int .i64 0] 2 32 := ⟨⟨⟨_, Tryd.underlying48, rfl⟩, by kernel_rfl⟩, rfl, rfl⟩
instance ty50 : TyC Tryd.prog 50 false .nilFunc [.nilf] 1 8 := ⟨⟨⟨_, Tryd.underlying50, rfl⟩, by kernel_rfl⟩, rfl, rfl⟩
instance ty51 : TyC Tryd.prog 51 true (.agg #[(.int .i64 0), (.int .i64 0)]) [.int .i64 0, .int .i64 0] 2 16 := ⟨⟨⟨_, Tryd.underlying51, rfl⟩, by kernel_rfl⟩, rfl, rfl⟩
instance ty52 : TyC Tryd.prog 52 true (.agg #[(.int .i64 0), (.int .i64 0)]) [.int .i64 0, .int .i64 0] 2 16 := ⟨⟨⟨_, Tryd.underlying52, rfl⟩, by kernel_rfl⟩, rfl, rfl⟩
instance ty53 : TyC Tryd.prog 53 false .nilFunc [.nilf] 1 8 := ⟨⟨⟨_, Tryd.underlying53, rfl⟩, by kernel_rfl⟩, rfl, rfl⟩
instance ty54 : TyC Tryd.prog 54 false .nilFunc [.nilf] 1 8 := ⟨⟨⟨_, Tryd.underlying54, rfl⟩, by kernel_rfl⟩, rfl, rfl⟩
instance ty55 : TyC Tryd.prog 55 false .nilFunc [.nilf] 1 8 := ⟨⟨⟨_, Tryd.underlying55, rfl⟩, by kernel_rfl⟩, rfl, rfl⟩
instance ty56 : TyC Tryd.prog 56 false .nilFunc [.nilf] 1 8 := ⟨⟨⟨_, Tryd.underlying56, rfl⟩, by kernel_rfl⟩, rfl, rfl⟩
instance ty57 : TyC Tryd.prog 57 false .nilFunc [.nilf] 1 8 := ⟨⟨⟨_, Tryd.underlying57, rfl⟩, by kernel_rfl⟩, rfl, rfl⟩
instance ty58 : TyC Tryd.prog 58 false .nilFunc [.nilf] 1 8 := ⟨⟨⟨_, Tryd.underlying58, rfl⟩, by kernel_rfl⟩, rfl, rfl⟩
instance ty59 : TyC Tryd.prog 59 false .nilFunc [.nilf] 1 8 := ⟨⟨⟨_, Tryd.underlying59, rfl⟩, by kernel_rfl⟩, rfl, rfl⟩
instance ty60 : TyC Tryd.prog 60 false .nilFunc [.nilf] 1 8 := ⟨⟨⟨_, Tryd.underlying60, rfl⟩, by kernel_rfl⟩, rfl, rfl⟩
instance ty61 : TyC Tryd.prog 61 false .nilFunc [.nilf] 1 8 := ⟨⟨⟨_, Tryd.underlying61, rfl⟩, by kernel_rfl⟩, rfl, rfl⟩
instance ty62 : TyC Tryd.prog 62 false .nilFunc [.nilf] 1 8 := ⟨⟨⟨_, Tryd.underlying62, rfl⟩, by kernel_rfl⟩, rfl, rfl⟩
instance ty63 : TyC Tryd.prog 63 false (.slice none 0 0) [.nils] 1 24 := ⟨⟨⟨_, Tryd.underlying63, rfl⟩, by kernel_rfl⟩, rfl, rfl⟩
instance : SlC Tryd.prog 63 21 := ⟨Tryd.underlying63⟩
instance ty64 : TyC Tryd.prog 64 false .nilFunc [.nilf] 1 8 := ⟨⟨⟨_, Tryd.underlying64, rfl⟩, by kernel_rfl⟩, rfl, rfl⟩
instance ty65 : TyC Tryd.prog 65 false .nilFunc [.nilf] 1 8 := ⟨⟨⟨_, Tryd.underlying65, rfl⟩, by kernel_rfl⟩, rfl, rfl⟩
instance ty66 : TyC Tryd.prog 66 false .nilFunc [.nilf] 1 8 := ⟨⟨⟨_, Tryd.underlying66, rfl⟩, by kernel_rfl⟩, rfl, rfl⟩
instance ty67 : TyC Tryd.prog 67 false .nilFunc [.nilf] 1 8 := ⟨⟨⟨_, Tryd.underlying67, rfl⟩, by kernel_rfl⟩, rfl, rfl⟩
instance ty68 : TyC Tryd.prog 68 false .nilFunc [.nilf] 1 8 := ⟨⟨⟨_, Tryd.underlying68, rfl⟩, by kernel_rfl⟩, rfl, rfl⟩
instance ty69 : TyC Tryd.prog 69 false .nilFunc [.nilf] 1 8 := ⟨⟨⟨_, Tryd.underlying69, rfl⟩, by kernel_rfl⟩, rfl, rfl⟩
instance ty70 : TyC Tryd.prog 70 false .nilFunc [.nilf] 1 8 := ⟨⟨⟨_, Tryd.underlying70, rfl⟩, by kernel_rfl⟩, rfl, rfl⟩
instance ty71 : TyC Tryd.prog 71 false (.pointer none) [.nilp] 1 8 := ⟨⟨⟨_, Tryd.underlying71, rfl⟩, by kernel_rfl⟩, rfl, rfl⟩
instance ty72 : TyC Tryd.prog 72 true (.agg #[(.int .i64 0), (.int .i64 0)]) [.int .i64 0, .int .i64 0] 2 16 := ⟨⟨⟨_, Tryd.underlying72, rfl⟩, by kernel_rfl⟩, rfl, rfl⟩
instance ty73 : TyC Tryd.prog 73 true (.agg #[(.int .i64 0), (.int .i64 0)]) [.int .i64 0, .int .i64 0] 2 16 := ⟨⟨⟨_, Tryd.underlying73, rfl⟩, by kernel_rfl⟩, rfl, rfl⟩
instance ty75 : TyC Tryd.prog 75 false .nilFunc [.nilf] 1 8 := ⟨⟨⟨_, Tryd.underlying75, rfl⟩, by kernel_rfl⟩, rfl, rfl⟩
instance ty77 : TyC Tryd.prog 77 false .nilFunc [.nilf] 1 8 := ⟨⟨⟨_, Tryd.underlying77, rfl⟩, by kernel_rfl⟩, rfl, rfl⟩
instance ty78 : TyC Tryd.prog 78 false .nilFunc [.nilf] 1 8 := ⟨⟨⟨_, Tryd.underlying78, rfl⟩, by kernel_rfl⟩, rfl, rfl⟩
instance ty79 : TyC Tryd.prog 79 false .nilFunc [.nilf] 1 8 := ⟨⟨⟨_, Tryd.underlying79, rfl⟩, by kernel_rfl⟩, rfl, rfl⟩
instance ty80 : TyC Tryd.prog 80 true (.agg #[(.string ⟨#[]⟩), (.string ⟨#[]⟩)]) [.str ⟨#[]⟩, .str ⟨#[]⟩] 2 32 := ⟨⟨⟨_, Tryd.underlying80, rfl⟩, by kernel_rfl⟩, rfl, rfl⟩
instance ty81 : TyC Tryd.prog 81 true (.agg #[(.string ⟨#[]⟩), (.string ⟨#[]⟩)]) [.str ⟨#[]⟩, .str ⟨#[]⟩] 2 32 := ⟨⟨⟨_, Tryd.underlying81, rfl⟩, by kernel_rfl⟩, rfl, rfl⟩
instance ty82 : TyC Tryd.prog 82 false (.int .u64 0) [.int .u64 0] 1 8 := ⟨⟨⟨_, Tryd.underlying82, rfl⟩, by kernel_rfl⟩, rfl, rfl⟩
instance : IntC Tryd.prog 82 .u64 := ⟨Tryd.underlying82⟩
instance ty83 : TyC Tryd.prog 83 false .nilFunc [.nilf] 1 8 := ⟨⟨⟨_, Tryd.underlying83, rfl⟩, by kernel_rfl⟩, rfl, rfl⟩
instance ty84 : TyC Tryd.prog 84 false .nilFunc [.nilf] 1 8 := ⟨⟨⟨_, Tryd.underlying84, rfl⟩, by kernel_rfl⟩, rfl, rfl⟩
instance ty85 : TyC Tryd.prog 85 false .nilFunc [.nilf] 1 8 := ⟨⟨⟨_, Tryd.underlying85, rfl⟩, by kernel_rfl⟩, rfl, rfl⟩
instance ty86 : TyC Tryd.prog 86 false .nilFunc [.nilf] 1 8 := ⟨⟨⟨_, Tryd.underlying86, rfl⟩, by kernel_rfl⟩, rfl, rfl⟩
instance ty87 : TyC Tryd.prog 87 false .nilFunc [.nilf] 1 8 := ⟨⟨⟨_, Tryd.underlying87, rfl⟩, by kernel_rfl⟩, rfl, rfl⟩
instance ty88 : TyC Tryd.prog 88 false .nilFunc [.nilf] 1 8 := ⟨⟨⟨_, Tryd.underlying88, rfl⟩, by kernel_rfl⟩, rfl, rfl⟩
instance ty89 : TyC Tryd.prog 89 false .nilFunc [.nilf] 1 8 := ⟨⟨⟨_, Tryd.underlying89, rfl⟩, by kernel_rfl⟩, rfl, rfl⟩
instance ty90 : TyC Tryd.prog 90 false .nilFunc [.nilf] 1 8 := ⟨⟨⟨_, Tryd.underlying90, rfl⟩, by kernel_rfl⟩, rfl, rfl⟩
instance ty91 : TyC Tryd.prog 91 false .nilFunc [.nilf] 1 8 := ⟨⟨⟨_, Tryd.underlying91, rfl⟩, by kernel_rfl⟩, rfl, rfl⟩
instance ty92 : TyC Tryd.prog 92 false .nilFunc [.nilf] 1 8 := ⟨⟨⟨_, Tryd.underlying92, rfl⟩, by kernel_rfl⟩, rfl, rfl⟩
instance ty93 : TyC Tryd.prog 93 false .nilFunc [.nilf] 1 8 := ⟨⟨⟨_, Tryd.underlying93, rfl⟩, by kernel_rfl⟩, rfl, rfl⟩
instance ty94 : TyC Tryd.prog 94 false .nilFunc [.nilf] 1 8 := ⟨⟨⟨_, Tryd.underlying94, rfl⟩, by kernel_rfl⟩, rfl, rfl⟩
instance ty95 : TyC Tryd.prog 95 false .nilFunc [.nilf] 1 8 := ⟨⟨⟨_, Tryd.underlying95, rfl⟩, by kernel_rfl⟩, rfl, rfl⟩
instance ty96 : TyC Tryd.prog 96 false .nilFunc [.nilf] 1 8 := ⟨⟨⟨_, Tryd.underlying96, rfl⟩, by kernel_rfl⟩, rfl, rfl⟩
instance ty97 : TyC Tryd.prog 97 false .nilFunc [.nilf] 1 8 := ⟨⟨⟨_, Tryd.underlying97, rfl⟩, by kernel_rfl⟩, rfl, rfl⟩
instance ty98 : TyC Tryd.prog 98 false .nilFunc [.nilf] 1 8 := ⟨⟨⟨_, Tryd.underlying98, rfl⟩, by kernel_rfl⟩, rfl, rfl⟩
instance ty99 : TyC Tryd.prog 99 false .nilFunc [.nilf] 1 8 := ⟨⟨⟨_, Tryd.underlying99, rfl⟩, by kernel_rfl⟩, rfl, rfl⟩
instance ty100 : TyC Tryd.prog 100 false .nilFunc [.nilf] 1 8 := ⟨⟨⟨_, Tryd.underlying100, rfl⟩, by kernel_rfl⟩, rfl, rfl⟩
instance ty101 : TyC Tryd.prog 101 false .nilFunc [.nilf] 1 8 := ⟨⟨⟨_, Tryd.underlying101, rfl⟩, by kernel_rfl⟩, rfl, rfl⟩
instance ty102 : TyC Tryd.prog 102 false .nilFunc [.nilf] 1 8 := ⟨⟨⟨_, Tryd.underlying102, rfl⟩, by kernel_rfl⟩, rfl, rfl⟩
instance ty104 : TyC Tryd.prog 104 false .nilFunc [.nilf] 1 8 := ⟨⟨⟨_, Tryd.underlying104, rfl⟩, by kernel_rfl⟩, rfl, rfl⟩
instance ty105 : TyC Tryd.prog 105 false (.slice none 0 0) [.nils] 1 24 := ⟨⟨⟨_, Tryd.underlying105, rfl⟩, by kernel_rfl⟩, rfl, rfl⟩
instance : SlC Tryd.prog 105 9 := ⟨Tryd.underlying105⟩
instance ty106 : TyC Tryd.prog 106 true (.agg #[(.slice none 0 0), (.int .i64 0)]) [.nils, .int .i64 0] 2 32 := ⟨⟨⟨_, Tryd.underlying106, rfl⟩, by kernel_rfl⟩, rfl, rfl⟩
instance ty107 : TyC Tryd.prog 107 true (.agg #[(.slice none 0 0), (.int .i64 0)]) [.nils, .int .i64 0] 2 32 := ⟨⟨⟨_, Tryd.underlying107, rfl⟩, by kernel_rfl⟩, rfl, rfl⟩
instance ty108 : TyC Tryd.prog 108 false .nilFunc [.nilf] 1 8 := ⟨⟨⟨_, Tryd.underlying108, rfl⟩, by kernel_rfl⟩, rfl, rfl⟩
instance ty109 : TyC Tryd.prog 109 false .nilFunc [.nilf] 1 8 := ⟨⟨⟨_, Tryd.underlying109, rfl⟩, by kernel_rfl⟩, rfl, rfl⟩
instance ty110 : TyC Tryd.prog 110 false .nilFunc [.nilf] 1 8 := ⟨⟨⟨_, Tryd.underlying110, rfl⟩, by kernel_rfl⟩, rfl, rfl⟩
instance ty111 : TyC Tryd.prog 111 false .nilFunc [.nilf] 1 8 := ⟨⟨⟨_, Tryd.underlying111, rfl⟩, by kernel_rfl⟩, rfl, rfl⟩
instance ty112 : TyC Tryd.prog 112 false .nilFunc [.nilf] 1 8 := ⟨⟨⟨_, Tryd.underlying112, rfl⟩, by kernel_rfl⟩, rfl, rfl⟩
instance ty113 : TyC Tryd.prog 113 false .nilFunc [.nilf] 1 8 := ⟨⟨⟨_, Tryd.underlying113, rfl⟩, by kernel_rfl⟩, rfl, rfl⟩
instance ty114 : TyC Tryd.prog 114 false .nilFunc [.nilf] 1 8 := ⟨⟨⟨_, Tryd.underlying114, rfl⟩, by kernel_rfl⟩, rfl, rfl⟩
instance ty115 : TyC Tryd.prog 115 false .nilFunc [.nilf] 1 8 := ⟨⟨⟨_, Tryd.underlying115, rfl⟩, by kernel_rfl⟩, rfl, rfl⟩
instance ty116 : TyC Tryd.prog 116 true (.agg #[(.slice none 0 0), (.int .i64 0), (.slice none 0 0), (.int .i64 0), (.slice none 0 0), (.int .i64 0), (.slice none 0 0), (.int .i64 0), (.slice none 0 0), (.int .i64 0), (.slice none 0 0), (.int .i64 0), (.slice none 0 0), (.int .i64 0), (.slice none 0 0), (.int .i64 0), (.slice none 0 0), (.int .i64 0), (.slice none 0 0), (.int .i64 0), (.slice none 0 0), (.int .i64 0), (.slice none 0 0), (.int .i64 0), (.slice none 0 0), (.int .i64 0), (.slice none 0 0), (.int .i64 0), (.slice none 0 0), (.int .i64 0), (.slice none 0 0), (.int .i64 0), (.slice none 0 0), (.int .i64 0)]) [.nils, .int .i64 0, .nils, .int .i64 0, .nils, .int .i64 0, .nils, .int .i64 0, .nils, .int .i64 0, .nils, .int .i64 0, .nils, .int .i64 0, .nils, .int .i64 0, .nils, .int .i64 0, .nils, .int .i64 0, .nils, .int .i64 0, .nils, .int .i64 0, .nils, .int .i64 0, .nils, .int .i64 0, .nils, .int .i64 0, .nils, .int .i64 0, .nils, .int .i64 0] 34 544 := ⟨⟨⟨_, Tryd.underlying116, rfl⟩, by kernel_rfl⟩, rfl, rfl⟩
instance ty117 : TyC Tryd.prog 117 false .nilFunc [.nilf] 1 8 := ⟨⟨⟨_, Tryd.underlying117, rfl⟩, by kernel_rfl⟩, rfl, rfl⟩
instance ty118 : TyC Tryd.prog 118 false .nilFunc [.nilf] 1 8 := ⟨⟨⟨_, Tryd.underlying118, rfl⟩, by kernel_rfl⟩, rfl, rfl⟩
instance ty119 : TyC Tryd.prog 119 false .nilFunc [.nilf] 1 8 := ⟨⟨⟨_, Tryd.underlying119, rfl⟩, by kernel_rfl⟩, rfl, rfl⟩
instance ty121 : TyC Tryd.prog 121 false .nilFunc [.nilf] 1 8 := ⟨⟨⟨_, Tryd.underlying121, rfl⟩, by kernel_rfl⟩, rfl, rfl⟩
instance ty123 : TyC Tryd.prog 123 false .nilFunc [.nilf] 1 8 := ⟨⟨⟨_, Tryd.underlying123, rfl⟩, by kernel_rfl⟩, rfl, rfl⟩
instance ty124 : TyC Tryd.prog 124 false .nilFunc [.nilf] 1 8 := ⟨⟨⟨_, Tryd.underlying124, rfl⟩, by kernel_rfl⟩, rfl, rfl⟩
instance ty125 : TyC Tryd.prog 125 false .nilFunc [.nilf] 1 8 := ⟨⟨⟨_, Tryd.underlying125, rfl⟩, by kernel_rfl⟩, rfl, rfl⟩
instance ty126 : TyC Tryd.prog 126 false (.int .u32 0) [.int .u32 0] 1 4 := ⟨⟨⟨_, Tryd.underlying126, rfl⟩, by kernel_rfl⟩, rfl, rfl⟩
instance : IntC Tryd.prog 126 .u32 := ⟨Tryd.underlying126⟩
instance ty128 : TyC Tryd.prog 128 false .nilFunc [.nilf] 1 8 := ⟨⟨⟨_, Tryd.underlying128, rfl⟩, by kernel_rfl⟩, rfl, rfl⟩
instance ty129 : TyC Tryd.prog 129 false (.int .u64 0) [.int .u64 0] 1 8 := ⟨⟨⟨_, Tryd.underlying129, rfl⟩, by kernel_rfl⟩, rfl, rfl⟩
instance : IntC Tryd.prog 129 .u64 := ⟨Tryd.underlying129⟩
instance ty131 : TyC Tryd.prog 131 false .nilFunc [.nilf] 1 8 := ⟨⟨⟨_, Tryd.underlying131, rfl⟩, by kernel_rfl⟩, rfl, rfl⟩
instance ty132 : TyC Tryd.prog 132 false (.pointer none) [.nilp] 1 8 := ⟨⟨⟨_, Tryd.underlying132, rfl⟩, by kernel_rfl⟩, rfl, rfl⟩
instance ty133 : TyC Tryd.prog 133 false (.slice none 0 0) [.nils] 1 24 := ⟨⟨⟨_, Tryd.underlying133, rfl⟩, by kernel_rfl⟩, rfl, rfl⟩
instance : SlC Tryd.prog 133 5 := ⟨Tryd.underlying133⟩
instance ty134 : TyC Tryd.prog 134 true (.agg #[(.pointer none), (.slice none 0 0)]) [.nilp, .nils] 2 32 := ⟨⟨⟨_, Tryd.underlying134, rfl⟩, by kernel_rfl⟩, rfl, rfl⟩
instance ty135 : TyC Tryd.prog 135 true (.agg #[(.pointer none), (.slice none 0 0)]) [.nilp, .nils] 2 32 := ⟨⟨⟨_, Tryd.underlying135, rfl⟩, by kernel_rfl⟩, rfl, rfl⟩
instance ty137 : TyC Tryd.prog 137 false .nilFunc [.nilf] 1 8 := ⟨⟨⟨_, Tryd.underlying137, rfl⟩, by kernel_rfl⟩, rfl, rfl⟩
instance ty138 : TyC Tryd.prog 138 false .nilFunc [.nilf] 1 8 := ⟨⟨⟨_, Tryd.underlying138, rfl⟩, by kernel_rfl⟩, rfl, rfl⟩
instance ty142 : TyC Tryd.prog 142 false .nilFunc [.nilf] 1 8 := ⟨⟨⟨_, Tryd.underlying142, rfl⟩, by kernel_rfl⟩, rfl, rfl⟩
instance ty143 : TyC Tryd.prog 143 false .nilFunc [.nilf] 1 8 := ⟨⟨⟨_, Tryd.underlying143, rfl⟩, by kernel_rfl⟩, rfl, rfl⟩
instance ty144 : TyC Tryd.prog 144 false .nilFunc [.nilf] 1 8 := ⟨⟨⟨_, Tryd.underlying144, rfl⟩, by kernel_rfl⟩, rfl, rfl⟩
instance ty145 : TyC Tryd.prog 145 false .nilFunc [.nilf] 1 8 := ⟨⟨⟨_, Tryd.underlying145, rfl⟩, by kernel_rfl⟩, rfl, rfl⟩
instance ty146 : TyC Tryd.prog 146 false .nilFunc [.nilf] 1 8 := ⟨⟨⟨_, Tryd.underlying146, rfl⟩, by kernel_rfl⟩, rfl, rfl⟩
instance ty147 : TyC Tryd.prog 147 false .nilFunc [.nilf] 1 8 := ⟨⟨⟨_, Tryd.underlying147, rfl⟩, by kernel_rfl⟩, rfl, rfl⟩
instance ty148 : TyC Tryd.prog 148 false .nilFunc [.nilf] 1 8 := ⟨⟨⟨_, Tryd.underlying148, rfl⟩, by kernel_rfl⟩, rfl, rfl⟩
instance ty149 : TyC Tryd.prog 149 false (.pointer none) [.nilp] 1 8 := ⟨⟨⟨_, Tryd.underlying149, rfl⟩, by kernel_rfl⟩, rfl, rfl⟩
instance ty150 : TyC Tryd.prog 150 false .nilFunc [.nilf] 1 8 := ⟨⟨⟨_, Tryd.underlying150, rfl⟩, by kernel_rfl⟩, rfl, rfl⟩
instance ty152 : TyC Tryd.prog 152 true (.agg #[(.int .u8 0), (.int .u8 0)]) [.int .u8 0, .int .u8 0] 2 2 := ⟨⟨⟨_, Tryd.underlying152, rfl⟩, by kernel_rfl⟩, rfl, rfl⟩
instance ty153 : TyC Tryd.prog 153 true (.agg #[(.int .u8 0), (.int .u8 0)]) [.int .u8 0, .int .u8 0] 2 2 := ⟨⟨⟨_, Tryd.underlying153, rfl⟩, by kernel_rfl⟩, rfl, rfl⟩
instance ty154 : TyC Tryd.prog 154 true (.agg #[(.int .u8 0), (.int .u8 0), (.int .u8 0), (.int .u8 0), (.int .u8 0), (.int .u8 0), (.int .u8 0), (.int .u8 0), (.int .u8 0), (.int .u8 0), (.int .u8 0), (.int .u8 0), (.int .u8 0), (.int .u8 0), (.int .u8 0), (.int .u8 0), (.int .u8 0), (.int .u8 0), (.int .u8 0), (.int .u8 0), (.int .u8 0), (.int .u8 0), (.int .u8 0), (.int .u8 0), (.int .u8 0), (.int .u8 0), (.int .u8 0), (.int .u8 0), (.int .u8 0), (.int .u8 0), (.int .u8 0), (.int .u8 0)]) [.int .u8 0, .int .u8 0, .int .u8 0, .int .u8 0, .int .u8 0, .int .u8 0, .int .u8 0, .int .u8 0, .int .u8 0, .int .u8 0, .int .u8 0, .int .u8 0, .int .u8 0, .int .u8 0, .int .u8 0, .int .u8 0, .int .u8 0, .int .u8 0, .int .u8 0, .int .u8 0, .int .u8 0, .int .u8 0, .int .u8 0, .int .u8 0, .int .u8 0, .int .u8 0, .int .u8 0, .int .u8 0, .int .u8 0, .int .u8 0, .int .u8 0, .int .u8 0] 32 32 := ⟨⟨⟨_, Tryd.underlying154, rfl⟩, by kernel_rfl⟩, rfl, rfl⟩
instance ty155 : TyC Tryd.prog 155 false .nilFunc [.nilf] 1 8 := ⟨⟨⟨_, Tryd.underlying155, rfl⟩, by kernel_rfl⟩, rfl, rfl⟩
instance ty157 : TyC Tryd.prog 157 false .nilFunc [.nilf] 1 8 := ⟨⟨⟨_, Tryd.underlying157, rfl⟩, by kernel_rfl⟩, rfl, rfl⟩
instance ty158 : TyC Tryd.prog 158 false .nilFunc [.nilf] 1 8 := ⟨⟨⟨_, Tryd.underlying158, rfl⟩, by kernel_rfl⟩, rfl, rfl⟩
instance ty159 : TyC Tryd.prog 159 false .nilFunc [.nilf] 1 8 := ⟨⟨⟨_, Tryd.underlying159, rfl⟩, by kernel_rfl⟩, rfl, rfl⟩
instance ty160 : TyC Tryd.prog 160 true (.agg #[(.pointer none), (.pointer none), (.pointer none), (.string ⟨#[]⟩)]) [.nilp, .nilp, .nilp, .str ⟨#[]⟩] 4 40 := ⟨⟨⟨_, Tryd.underlying160, rfl⟩, by kernel_rfl⟩, rfl, rfl⟩
instance ty161 : TyC Tryd.prog 161 true (.agg #[(.pointer none), (.pointer none), (.pointer none), (.string ⟨#[]⟩)]) [.nilp, .nilp, .nilp, .str ⟨#[]⟩] 4 40 := ⟨⟨⟨_, Tryd.underlying161, rfl⟩, by kernel_rfl⟩, rfl, rfl⟩
instance ty162 : TyC Tryd.prog 162 true (.agg #[]) [] 0 0 := ⟨⟨⟨_, Tryd.underlying162, rfl⟩, by kernel_rfl⟩, rfl, rfl⟩
instance ty163 : TyC Tryd.prog 163 true (.agg #[]) [] 0 0 := ⟨⟨⟨_, Tryd.underlying163, rfl⟩, by kernel_rfl⟩, rfl, rfl⟩
instance ty164 : TyC Tryd.prog 164 true (.agg #[]) [] 0 0 := ⟨⟨⟨_, Tryd.underlying164, rfl⟩, by kernel_rfl⟩, rfl, rfl⟩
instance ty165 : TyC Tryd.prog 165 false (.int .u8 0) [.int .u8 0] 1 1 := ⟨⟨⟨_, Tryd.underlying165, rfl⟩, by kernel_rfl⟩, rfl, rfl⟩
instance : IntC Tryd.prog 165 .u8 := ⟨Tryd.underlying165⟩
instance ty166 : TyC Tryd.prog 166 false (.int .u8 0) [.int .u8 0] 1 1 := ⟨⟨⟨_, Tryd.underlying166, rfl⟩, by kernel_rfl⟩, rfl, rfl⟩
instance : IntC Tryd.prog 166 .u8 := ⟨Tryd.underlying166⟩
instance ty167 : TyC Tryd.prog 167 false .nilFunc [.nilf] 1 8 := ⟨⟨⟨_, Tryd.underlying167, rfl⟩, by kernel_rfl⟩, rfl, rfl⟩
instance ty168 : TyC Tryd.prog 168 false (.int .i32 0) [.int .i32 0] 1 4 := ⟨⟨⟨_, Tryd.underlying168, rfl⟩, by kernel_rfl⟩, rfl, rfl⟩
instance : IntC Tryd.prog 168 .i32 := ⟨Tryd.underlying168⟩
instance ty169 : TyC Tryd.prog 169 false (.int .i32 0) [.int .i32 0] 1 4 := ⟨⟨⟨_, Tryd.underlying169, rfl⟩, by kernel_rfl⟩, rfl, rfl⟩
instance : IntC Tryd.prog 169 .i32 := ⟨Tryd.underlying169⟩
instance ty170 : TyC Tryd.prog 170 true (.agg #[(.int .u64 0), (.int .u64 0), (.int .u32 0), (.int .u8 0), (.int .u8 0), (.int .u8 0), (.int .u8 0), .nilFunc, (.pointer none), (.int .i32 0), (.int .i32 0)]) [.int .u64 0, .int .u64 0, .int .u32 0, .int .u8 0, .int .u8 0, .int .u8 0, .int .u8 0, .nilf, .nilp, .int .i32 0, .int .i32 0] 11 48 := ⟨⟨⟨_, Tryd.underlying170, rfl⟩, by kernel_rfl⟩, rfl, rfl⟩
instance ty171 : TyC Tryd.prog 171 true (.agg #[(.int .u64 0), (.int .u64 0), (.int .u32 0), (.int .u8 0), (.int .u8 0), (.int .u8 0), (.int .u8 0), .nilFunc, (.pointer none), (.int .i32 0), (.int .i32 0)]) [.int .u64 0, .int .u64 0, .int .u32 0, .int .u8 0, .int .u8 0, .int .u8 0, .int .u8 0, .nilf, .nilp, .int .i32 0, .int .i32 0] 11 48 := ⟨⟨⟨_, Tryd.underlying171, rfl⟩, by kernel_rfl⟩, rfl, rfl⟩
abbrev TB_int64 : Nat := 2
abbrev TB_int : Nat := 3
abbrev TB_bool : Nat := 4
abbrev TB_uint8 : Nat := 5
abbrev TB_string : Nat := 9
abbrev TB_uintptr : Nat := 12
abbrev TB_int32 : Nat := 21
abbrev TS_Cell : Nat := 22
abbrev TS_int : Nat := 24
abbrev TS_Line : Nat := 27
abbrev TS_Node : Nat := 29
abbrev TS_Point : Nat := 31
abbrev TS_Attr : Nat := 39
abbrev TS_int32 : Nat := 63
abbrev TB_uint : Nat := 82
abbrev TS_string : Nat := 105
abbrev TB_uint32 : Nat := 126
abbrev TB_uint64 : Nat := 129
abbrev TS_uint8 : Nat := 133
instance : FldC Tryd.prog 7 0 0 := ⟨Fld.mk' (off := 0) Tryd.underlying7 rfl rfl ty2.h rfl⟩
instance : FldVC Tryd.prog 7 0 0 false 1 := ⟨FldV.mk' (off := 0) (agg := false) (sz := 1) Tryd.underlying7 rfl rfl ty2.h⟩
instance : FldC Tryd.prog 7 1 1 := ⟨Fld.mk' (off := 1) Tryd.underlying7 rfl rfl ty3.h rfl⟩
instance : FldVC Tryd.prog 7 1 1 false 1 := ⟨FldV.mk' (off := 1) (agg := false) (sz := 1) Tryd.underlying7 rfl rfl ty3.h⟩
instance : FldC Tryd.prog 7 2 2 := ⟨Fld.mk' (off := 2) Tryd.underlying7 rfl rfl ty4.h rfl⟩
instance : FldVC Tryd.prog 7 2 2 false 1 := ⟨FldV.mk' (off := 2) (agg := false) (sz := 1) Tryd.underlying7 rfl rfl ty4.h⟩
instance : FldC Tryd.prog 7 3 3 := ⟨Fld.mk' (off := 3) Tryd.underlying7 rfl rfl ty6.h rfl⟩
instance : FldVC Tryd.prog 7 3 3 false 1 := ⟨FldV.mk' (off := 3) (agg := false) (sz := 1) Tryd.underlying7 rfl rfl ty6.h⟩
instance : FldsC Tryd.prog 7 [(0, 1), (1, 1), (2, 1), (3, 1)] := ⟨⟨_, Tryd.underlying7, by kernel_rfl⟩⟩
instance : FldC Tryd.prog 8 0 0 := ⟨Fld.mk' (off := 0) Tryd.underlying8 rfl rfl ty2.h rfl⟩
instance : FldVC Tryd.prog 8 0 0 false 1 := ⟨FldV.mk' (off := 0) (agg := false) (sz := 1) Tryd.underlying8 rfl rfl ty2.h⟩
instance : FldC Tryd.prog 8 1 1 := ⟨Fld.mk' (off := 1) Tryd.underlying8 rfl rfl ty3.h rfl⟩
instance : FldVC Tryd.prog 8 1 1 false 1 := ⟨FldV.mk' (off := 1) (agg := false) (sz := 1) Tryd.underlying8 rfl rfl ty3.h⟩
instance : FldC Tryd.prog 8 2 2 := ⟨Fld.mk' (off := 2) Tryd.underlying8 rfl rfl ty4.h rfl⟩
instance : FldVC Tryd.prog 8 2 2 false 1 := ⟨FldV.mk' (off := 2) (agg := false) (sz := 1) Tryd.underlying8 rfl rfl ty4.h⟩
instance : FldC Tryd.prog 8 3 3 := ⟨Fld.mk' (off := 3) Tryd.underlying8 rfl rfl ty6.h rfl⟩
instance : FldVC Tryd.prog 8 3 3 false 1 := ⟨FldV.mk' (off := 3) (agg := false) (sz := 1) Tryd.underlying8 rfl rfl ty6.h⟩
instance : FldsC Tryd.prog 8 [(0, 1), (1, 1), (2, 1), (3, 1)] := ⟨⟨_, Tryd.underlying8, by kernel_rfl⟩⟩
instance : FldC Tryd.prog 13 0 0 := ⟨Fld.mk' (off := 0) Tryd.underlying13 rfl rfl ty9.h rfl⟩
instance : FldVC Tryd.prog 13 0 0 false 1 := ⟨FldV.mk' (off := 0) (agg := false) (sz := 1) Tryd.underlying13 rfl rfl ty9.h⟩
instance : FldC Tryd.prog 13 1 1 := ⟨Fld.mk' (off := 1) Tryd.underlying13 rfl rfl ty12.h rfl⟩
instance : FldVC Tryd.prog 13 1 1 false 1 := ⟨FldV.mk' (off := 1) (agg := false) (sz := 1) Tryd.underlying13 rfl rfl ty12.h⟩
instance : FldsC Tryd.prog 13 [(0, 1), (1, 1)] := ⟨⟨_, Tryd.underlying13, by kernel_rfl⟩⟩
instance : FldC Tryd.prog 14 0 0 := ⟨Fld.mk' (off := 0) Tryd.underlying14 rfl rfl ty9.h rfl⟩
instance : FldVC Tryd.prog 14 0 0 false 1 := ⟨FldV.mk' (off := 0) (agg := false) (sz := 1) Tryd.underlying14 rfl rfl ty9.h⟩
instance : FldC Tryd.prog 14 1 1 := ⟨Fld.mk' (off := 1) Tryd.underlying14 rfl rfl ty12.h rfl⟩
instance : FldVC Tryd.prog 14 1 1 false 1 := ⟨FldV.mk' (off := 1) (agg := false) (sz := 1) Tryd.underlying14 rfl rfl ty12.h⟩
instance : FldsC Tryd.prog 14 [(0, 1), (1, 1)] := ⟨⟨_, Tryd.underlying14, by kernel_rfl⟩⟩
instance : FldC Tryd.prog 18 0 0 := ⟨Fld.mk' (off := 0) Tryd.underlying18 rfl rfl ty17.h rfl⟩
instance : FldVC Tryd.prog 18 0 0 false 1 := ⟨FldV.mk' (off := 0) (agg := false) (sz := 1) Tryd.underlying18 rfl rfl ty17.h⟩
instance : FldsC Tryd.prog 18 [(0, 1)] := ⟨⟨_, Tryd.underlying18, by kernel_rfl⟩⟩
instance : FldC Tryd.prog 19 0 0 := ⟨Fld.mk' (off := 0) Tryd.underlying19 rfl rfl ty17.h rfl⟩
instance : FldVC Tryd.prog 19 0 0 false 1 := ⟨FldV.mk' (off := 0) (agg := false) (sz := 1) Tryd.underlying19 rfl rfl ty17.h⟩
instance : FldsC Tryd.prog 19 [(0, 1)] := ⟨⟨_, Tryd.underlying19, by kernel_rfl⟩⟩
instance : FldC Tryd.prog 25 0 0 := ⟨Fld.mk' (off := 0) Tryd.underlying25 rfl rfl ty3.h rfl⟩
instance : FldVC Tryd.prog 25 0 0 false 1 := ⟨FldV.mk' (off := 0) (agg := false) (sz := 1) Tryd.underlying25 rfl rfl ty3.h⟩
instance : FldC Tryd.prog 25 1 1 := ⟨Fld.mk' (off := 1) Tryd.underlying25 rfl rfl ty24.h rfl⟩
instance : FldVC Tryd.prog 25 1 1 false 1 := ⟨FldV.mk' (off := 1) (agg := false) (sz := 1) Tryd.underlying25 rfl rfl ty24.h⟩
instance : FldC Tryd.prog 25 2 2 := ⟨Fld.mk' (off := 2) Tryd.underlying25 rfl rfl ty3.h rfl⟩
instance : FldVC Tryd.prog 25 2 2 false 1 := ⟨FldV.mk' (off := 2) (agg := false) (sz := 1) Tryd.underlying25 rfl rfl ty3.h⟩
instance : FldC Tryd.prog 25 3 3 := ⟨Fld.mk' (off := 3) Tryd.underlying25 rfl rfl ty22.h rfl⟩
instance : FldVC Tryd.prog 25 3 3 false 1 := ⟨FldV.mk' (off := 3) (agg := false) (sz := 1) Tryd.underlying25 rfl rfl ty22.h⟩
instance : FldsC Tryd.prog 25 [(0, 1), (1, 1), (2, 1), (3, 1)] := ⟨⟨_, Tryd.underlying25, by kernel_rfl⟩⟩
instance : FldC Tryd.prog 26 0 0 := ⟨Fld.mk' (off := 0) Tryd.underlying26 rfl rfl ty3.h rfl⟩
instance : FldVC Tryd.prog 26 0 0 false 1 := ⟨FldV.mk' (off := 0) (agg := false) (sz := 1) Tryd.underlying26 rfl rfl ty3.h⟩
instance : FldC Tryd.prog 26 1 1 := ⟨Fld.mk' (off := 1) Tryd.underlying26 rfl rfl ty24.h rfl⟩
instance : FldVC Tryd.prog 26 1 1 false 1 := ⟨FldV.mk' (off := 1) (agg := false) (sz := 1) Tryd.underlying26 rfl rfl ty24.h⟩
instance : FldC Tryd.prog 26 2 2 := ⟨Fld.mk' (off := 2) Tryd.underlying26 rfl rfl ty3.h rfl⟩
instance : FldVC Tryd.prog 26 2 2 false 1 := ⟨FldV.mk' (off := 2) (agg := false) (sz := 1) Tryd.underlying26 rfl rfl ty3.h⟩
instance : FldC Tryd.prog 26 3 3 := ⟨Fld.mk' (off := 3) Tryd.underlying26 rfl rfl ty22.h rfl⟩
instance : FldVC Tryd.prog 26 3 3 false 1 := ⟨FldV.mk' (off := 3) (agg := false) (sz := 1) Tryd.underlying26 rfl rfl ty22.h⟩
instance : FldsC Tryd.prog 26 [(0, 1), (1, 1), (2, 1), (3, 1)] := ⟨⟨_, Tryd.underlying26, by kernel_rfl⟩⟩
instance : FldC Tryd.prog 36 0 0 := ⟨Fld.mk' (off := 0) Tryd.underlying36 rfl rfl ty21.h rfl⟩
instance : FldVC Tryd.prog 36 0 0 false 1 := ⟨FldV.mk' (off := 0) (agg := false) (sz := 1) Tryd.underlying36 rfl rfl ty21.h⟩
instance : FldC Tryd.prog 36 1 1 := ⟨Fld.mk' (off := 1) Tryd.underlying36 rfl rfl ty3.h rfl⟩
instance : FldVC Tryd.prog 36 1 1 false 1 := ⟨FldV.mk' (off := 1) (agg := false) (sz := 1) Tryd.underlying36 rfl rfl ty3.h⟩
instance : FldC Tryd.prog 36 2 2 := ⟨Fld.mk' (off := 2) Tryd.underlying36 rfl rfl ty9.h rfl⟩
instance : FldVC Tryd.prog 36 2 2 false 1 := ⟨FldV.mk' (off := 2) (agg := false) (sz := 1) Tryd.underlying36 rfl rfl ty9.h⟩
instance : FldsC Tryd.prog 36 [(0, 1), (1, 1), (2, 1)] := ⟨⟨_, Tryd.underlying36, by kernel_rfl⟩⟩
instance : FldC Tryd.prog 37 0 0 := ⟨Fld.mk' (off := 0) Tryd.underlying37 rfl rfl ty21.h rfl⟩
instance : FldVC Tryd.prog 37 0 0 false 1 := ⟨FldV.mk' (off := 0) (agg := false) (sz := 1) Tryd.underlying37 rfl rfl ty21.h⟩
instance : FldC Tryd.prog 37 1 1 := ⟨Fld.mk' (off := 1) Tryd.underlying37 rfl rfl ty3.h rfl⟩
instance : FldVC Tryd.prog 37 1 1 false 1 := ⟨FldV.mk' (off := 1) (agg := false) (sz := 1) Tryd.underlying37 rfl rfl ty3.h⟩
instance : FldC Tryd.prog 37 2 2 := ⟨Fld.mk' (off := 2) Tryd.underlying37 rfl rfl ty9.h rfl⟩
instance : FldVC Tryd.prog 37 2 2 false 1 := ⟨FldV.mk' (off := 2) (agg := false) (sz := 1) Tryd.underlying37 rfl rfl ty9.h⟩
instance : FldsC Tryd.prog 37 [(0, 1), (1, 1), (2, 1)] := ⟨⟨_, Tryd.underlying37, by kernel_rfl⟩⟩
instance : FldC Tryd.prog 40 0 0 := ⟨Fld.mk' (off := 0) Tryd.underlying40 rfl rfl ty3.h rfl⟩
instance : FldVC Tryd.prog 40 0 0 false 1 := ⟨FldV.mk' (off := 0) (agg := false) (sz := 1) Tryd.underlying40 rfl rfl ty3.h⟩
instance : FldC Tryd.prog 40 1 1 := ⟨Fld.mk' (off := 1) Tryd.underlying40 rfl rfl ty39.h rfl⟩
instance : FldVC Tryd.prog 40 1 1 false 1 := ⟨FldV.mk' (off := 1) (agg := false) (sz := 1) Tryd.underlying40 rfl rfl ty39.h⟩
instance : FldC Tryd.prog 40 2 2 := ⟨Fld.mk' (off := 2) Tryd.underlying40 rfl rfl ty9.h rfl⟩
instance : FldVC Tryd.prog 40 2 2 false 1 := ⟨FldV.mk' (off := 2) (agg := false) (sz := 1) Tryd.underlying40 rfl rfl ty9.h⟩
instance : FldC Tryd.prog 40 3 3 := ⟨Fld.mk' (off := 3) Tryd.underlying40 rfl rfl ty29.h rfl⟩
instance : FldVC Tryd.prog 40 3 3 false 1 := ⟨FldV.mk' (off := 3) (agg := false) (sz := 1) Tryd.underlying40 rfl rfl ty29.h⟩
instance : FldsC Tryd.prog 40 [(0, 1), (1, 1), (2, 1), (3, 1)] := ⟨⟨_, Tryd.underlying40, by kernel_rfl⟩⟩
instance : FldC Tryd.prog 41 0 0 := ⟨Fld.mk' (off := 0) Tryd.underlying41 rfl rfl ty3.h rfl⟩
instance : FldVC Tryd.prog 41 0 0 false 1 := ⟨FldV.mk' (off := 0) (agg := false) (sz := 1) Tryd.underlying41 rfl rfl ty3.h⟩
instance : FldC Tryd.prog 41 1 1 := ⟨Fld.mk' (off := 1) Tryd.underlying41 rfl rfl ty39.h rfl⟩
instance : FldVC Tryd.prog 41 1 1 false 1 := ⟨FldV.mk' (off := 1) (agg := false) (sz := 1) Tryd.underlying41 rfl rfl ty39.h⟩
instance : FldC Tryd.prog 41 2 2 := ⟨Fld.mk' (off := 2) Tryd.underlying41 rfl rfl ty9.h rfl⟩
instance : FldVC Tryd.prog 41 2 2 false 1 := ⟨FldV.mk' (off := 2) (agg := false) (sz := 1) Tryd.underlying41 rfl rfl ty9.h⟩
instance : FldC Tryd.prog 41 3 3 := ⟨Fld.mk' (off := 3) Tryd.underlying41 rfl rfl ty29.h rfl⟩
instance : FldVC Tryd.prog 41 3 3 false 1 := ⟨FldV.mk' (off := 3) (agg := false) (sz := 1) Tryd.underlying41 rfl rfl ty29.h⟩
instance : FldsC Tryd.prog 41 [(0, 1), (1, 1), (2, 1), (3, 1)] := ⟨⟨_, Tryd.underlying41, by kernel_rfl⟩⟩
instance : FldC Tryd.prog 47 0 0 := ⟨Fld.mk' (off := 0) Tryd.underlying47 rfl rfl ty24.h rfl⟩
instance : FldVC Tryd.prog 47 0 0 false 1 := ⟨FldV.mk' (off := 0) (agg := false) (sz := 1) Tryd.underlying47 rfl rfl ty24.h⟩
instance : FldC Tryd.prog 47 1 1 := ⟨Fld.mk' (off := 1) Tryd.underlying47 rfl rfl ty3.h rfl⟩
instance : FldVC Tryd.prog 47 1 1 false 1 := ⟨FldV.mk' (off := 1) (agg := false) (sz := 1) Tryd.underlying47 rfl rfl ty3.h⟩
instance : FldsC Tryd.prog 47 [(0, 1), (1, 1)] := ⟨⟨_, Tryd.underlying47, by kernel_rfl⟩⟩
instance : FldC Tryd.prog 48 0 0 := ⟨Fld.mk' (off := 0) Tryd.underlying48 rfl rfl ty24.h rfl⟩
instance : FldVC Tryd.prog 48 0 0 false 1 := ⟨FldV.mk' (off := 0) (agg := false) (sz := 1) Tryd.underlying48 rfl rfl ty24.h⟩
instance : FldC Tryd.prog 48 1 1 := ⟨Fld.mk' (off := 1) Tryd.underlying48 rfl rfl ty3.h rfl⟩
instance : FldVC Tryd.prog 48 1 1 false 1 := ⟨FldV.mk' (off := 1) (agg := false) (sz := 1) Tryd.underlying48 rfl rfl ty3.h⟩
instance : FldsC Tryd.prog 48 [(0, 1), (1, 1)] := ⟨⟨_, Tryd.underlying48, by kernel_rfl⟩⟩
instance : FldC Tryd.prog 51 0 0 := ⟨Fld.mk' (off := 0) Tryd.underlying51 rfl rfl ty3.h rfl⟩
instance : FldVC Tryd.prog 51 0 0 false 1 := ⟨FldV.mk' (off := 0) (agg := false) (sz := 1) Tryd.underlying51 rfl rfl ty3.h⟩
instance : FldC Tryd.prog 51 1 1 := ⟨Fld.mk' (off := 1) Tryd.underlying51 rfl rfl ty3.h rfl⟩
instance : FldVC Tryd.prog 51 1 1 false 1 := ⟨FldV.mk' (off := 1) (agg := false) (sz := 1) Tryd.underlying51 rfl rfl ty3.h⟩
instance : FldsC Tryd.prog 51 [(0, 1), (1, 1)] := ⟨⟨_, Tryd.underlying51, by kernel_rfl⟩⟩
instance : FldC Tryd.prog 52 0 0 := ⟨Fld.mk' (off := 0) Tryd.underlying52 rfl rfl ty3.h rfl⟩
instance : FldVC Tryd.prog 52 0 0 false 1 := ⟨FldV.mk' (off := 0) (agg := false) (sz := 1) Tryd.underlying52 rfl rfl ty3.h⟩
instance : FldC Tryd.prog 52 1 1 := ⟨Fld.mk' (off := 1) Tryd.underlying52 rfl rfl ty3.h rfl⟩
instance : FldVC Tryd.prog 52 1 1 false 1 := ⟨FldV.mk' (off := 1) (agg := false) (sz := 1) Tryd.underlying52 rfl rfl ty3.h⟩
instance : FldsC Tryd.prog 52 [(0, 1), (1, 1)] := ⟨⟨_, Tryd.underlying52, by kernel_rfl⟩⟩
instance : FldC Tryd.prog 72 0 0 := ⟨Fld.mk' (off := 0) Tryd.underlying72 rfl rfl ty3.h rfl⟩
instance : FldVC Tryd.prog 72 0 0 false 1 := ⟨FldV.mk' (off := 0) (agg := false) (sz := 1) Tryd.underlying72 rfl rfl ty3.h⟩
instance : FldC Tryd.prog 72 1 1 := ⟨Fld.mk' (off := 1) Tryd.underlying72 rfl rfl ty3.h rfl⟩
instance : FldVC Tryd.prog 72 1 1 false 1 := ⟨FldV.mk' (off := 1) (agg := false) (sz := 1) Tryd.underlying72 rfl rfl ty3.h⟩
instance : FldsC Tryd.prog 72 [(0, 1), (1, 1)] := ⟨⟨_, Tryd.underlying72, by kernel_rfl⟩⟩
instance : FldC Tryd.prog 73 0 0 := ⟨Fld.mk' (off := 0) Tryd.underlying73 rfl rfl ty3.h rfl⟩
instance : FldVC Tryd.prog 73 0 0 false 1 := ⟨FldV.mk' (off := 0) (agg := false) (sz := 1) Tryd.underlying73 rfl rfl ty3.h⟩
instance : FldC Tryd.prog 73 1 1 := ⟨Fld.mk' (off := 1) Tryd.underlying73 rfl rfl ty3.h rfl⟩
instance : FldVC Tryd.prog 73 1 1 false 1 := ⟨FldV.mk' (off := 1) (agg := false) (sz := 1) Tryd.underlying73 rfl rfl ty3.h⟩
instance : FldsC Tryd.prog 73 [(0, 1), (1, 1)] := ⟨⟨_, Tryd.underlying73, by kernel_rfl⟩⟩
instance : FldC Tryd.prog 80 0 0 := ⟨Fld.mk' (off := 0) Tryd.underlying80 rfl rfl ty9.h rfl⟩
instance : FldVC Tryd.prog 80 0 0 false 1 := ⟨FldV.mk' (off := 0) (agg := false) (sz := 1) Tryd.underlying80 rfl rfl ty9.h⟩
instance : FldC Tryd.prog 80 1 1 := ⟨Fld.mk' (off := 1) Tryd.underlying80 rfl rfl ty9.h rfl⟩
instance : FldVC Tryd.prog 80 1 1 false 1 := ⟨FldV.mk' (off := 1) (agg := false) (sz := 1) Tryd.underlying80 rfl rfl ty9.h⟩
instance : FldsC Tryd.prog 80 [(0, 1), (1, 1)] := ⟨⟨_, Tryd.underlying80, by kernel_rfl⟩⟩
instance : FldC Tryd.prog 81 0 0 := ⟨Fld.mk' (off := 0) Tryd.underlying81 rfl rfl ty9.h rfl⟩
instance : FldVC Tryd.prog 81 0 0 false 1 := ⟨FldV.mk' (off := 0) (agg := false) (sz := 1) Tryd.underlying81 rfl rfl ty9.h⟩
instance : FldC Tryd.prog 81 1 1 := ⟨Fld.mk' (off := 1) Tryd.underlying81 rfl rfl ty9.h rfl⟩
instance : FldVC Tryd.prog 81 1 1 false 1 := ⟨FldV.mk' (off := 1) (agg := false) (sz := 1) Tryd.underlying81 rfl rfl ty9.h⟩
instance : FldsC Tryd.prog 81 [(0, 1), (1, 1)] := ⟨⟨_, Tryd.underlying81, by kernel_rfl⟩⟩
instance : FldC Tryd.prog 106 0 0 := ⟨Fld.mk' (off := 0) Tryd.underlying106 rfl rfl ty105.h rfl⟩
instance : FldVC Tryd.prog 106 0 0 false 1 := ⟨FldV.mk' (off := 0) (agg := false) (sz := 1) Tryd.underlying106 rfl rfl ty105.h⟩
instance : FldC Tryd.prog 106 1 1 := ⟨Fld.mk' (off := 1) Tryd.underlying106 rfl rfl ty3.h rfl⟩
instance : FldVC Tryd.prog 106 1 1 false 1 := ⟨FldV.mk' (off := 1) (agg := false) (sz := 1) Tryd.underlying106 rfl rfl ty3.h⟩
instance : FldsC Tryd.prog 106 [(0, 1), (1, 1)] := ⟨⟨_, Tryd.underlying106, by kernel_rfl⟩⟩
instance : FldC Tryd.prog 107 0 0 := ⟨Fld.mk' (off := 0) Tryd.underlying107 rfl rfl ty105.h rfl⟩
instance : FldVC Tryd.prog 107 0 0 false 1 := ⟨FldV.mk' (off := 0) (agg := false) (sz := 1) Tryd.underlying107 rfl rfl ty105.h⟩
instance : FldC Tryd.prog 107 1 1 := ⟨Fld.mk' (off := 1) Tryd.underlying107 rfl rfl ty3.h rfl⟩
instance : FldVC Tryd.prog 107 1 1 false 1 := ⟨FldV.mk' (off := 1) (agg := false) (sz := 1) Tryd.underlying107 rfl rfl ty3.h⟩
instance : FldsC Tryd.prog 107 [(0, 1), (1, 1)] := ⟨⟨_, Tryd.underlying107, by kernel_rfl⟩⟩
instance : FldC Tryd.prog 134 0 0 := ⟨Fld.mk' (off := 0) Tryd.underlying134 rfl rfl ty132.h rfl⟩
instance : FldVC Tryd.prog 134 0 0 false 1 := ⟨FldV.mk' (off := 0) (agg := false) (sz := 1) Tryd.underlying134 rfl rfl ty132.h⟩
instance : FldC Tryd.prog 134 1 1 := ⟨Fld.mk' (off := 1) Tryd.underlying134 rfl rfl ty133.h rfl⟩
instance : FldVC Tryd.prog 134 1 1 false 1 := ⟨FldV.mk' (off := 1) (agg := false) (sz := 1) Tryd.underlying134 rfl rfl ty133.h⟩
instance : FldsC Tryd.prog 134 [(0, 1), (1, 1)] := ⟨⟨_, Tryd.underlying134, by kernel_rfl⟩⟩
instance : FldC Tryd.prog 135 0 0 := ⟨Fld.mk' (off := 0) Tryd.underlying135 rfl rfl ty132.h rfl⟩
instance : FldVC Tryd.prog 135 0 0 false 1 := ⟨FldV.mk' (off := 0) (agg := false) (sz := 1) Tryd.underlying135 rfl rfl ty132.h⟩
instance : FldC Tryd.prog 135 1 1 := ⟨Fld.mk' (off := 1) Tryd.underlying135 rfl rfl ty133.h rfl⟩
instance : FldVC Tryd.prog 135 1 1 false 1 := ⟨FldV.mk' (off := 1) (agg := false) (sz := 1) Tryd.underlying135 rfl rfl ty133.h⟩
instance : FldsC Tryd.prog 135 [(0, 1), (1, 1)] := ⟨⟨_, Tryd.underlying135, by kernel_rfl⟩⟩
instance : FldC Tryd.prog 152 0 0 := ⟨Fld.mk' (off := 0) Tryd.underlying152 rfl rfl ty5.h rfl⟩
instance : FldVC Tryd.prog 152 0 0 false 1 := ⟨FldV.mk' (off := 0) (agg := false) (sz := 1) Tryd.underlying152 rfl rfl ty5.h⟩
instance : FldC Tryd.prog 152 1 1 := ⟨Fld.mk' (off := 1) Tryd.underlying152 rfl rfl ty5.h rfl⟩
instance : FldVC Tryd.prog 152 1 1 false 1 := ⟨FldV.mk' (off := 1) (agg := false) (sz := 1) Tryd.underlying152 rfl rfl ty5.h⟩
instance : FldsC Tryd.prog 152 [(0, 1), (1, 1)] := ⟨⟨_, Tryd.underlying152, by kernel_rfl⟩⟩
instance : FldC Tryd.prog 153 0 0 := ⟨Fld.mk' (off := 0) Tryd.underlying153 rfl rfl ty5.h rfl⟩
instance : FldVC Tryd.prog 153 0 0 false 1 := ⟨FldV.mk' (off := 0) (agg := false) (sz := 1) Tryd.underlying153 rfl rfl ty5.h⟩
instance : FldC Tryd.prog 153 1 1 := ⟨Fld.mk' (off := 1) Tryd.underlying153 rfl rfl ty5.h rfl⟩
instance : FldVC Tryd.prog 153 1 1 false 1 := ⟨FldV.mk' (off := 1) (agg := false) (sz := 1) Tryd.underlying153 rfl rfl ty5.h⟩
instance : FldsC Tryd.prog 153 [(0, 1), (1, 1)] := ⟨⟨_, Tryd.underlying153, by kernel_rfl⟩⟩
instance : FldC Tryd.prog 160 0 0 := ⟨Fld.mk' (off := 0) Tryd.underlying160 rfl rfl ty17.h rfl⟩
instance : FldVC Tryd.prog 160 0 0 false 1 := ⟨FldV.mk' (off := 0) (agg := false) (sz := 1) Tryd.underlying160 rfl rfl ty17.h⟩
instance : FldC Tryd.prog 160 1 1 := ⟨Fld.mk' (off := 1) Tryd.underlying160 rfl rfl ty17.h rfl⟩
instance : FldVC Tryd.prog 160 1 1 false 1 := ⟨FldV.mk' (off := 1) (agg := false) (sz := 1) Tryd.underlying160 rfl rfl ty17.h⟩
instance : FldC Tryd.prog 160 2 2 := ⟨Fld.mk' (off := 2) Tryd.underlying160 rfl rfl ty17.h rfl⟩
instance : FldVC Tryd.prog 160 2 2 false 1 := ⟨FldV.mk' (off := 2) (agg := false) (sz := 1) Tryd.underlying160 rfl rfl ty17.h⟩
instance : FldC Tryd.prog 160 3 3 := ⟨Fld.mk' (off := 3) Tryd.underlying160 rfl rfl ty9.h rfl⟩
instance : FldVC Tryd.prog 160 3 3 false 1 := ⟨FldV.mk' (off := 3) (agg := false) (sz := 1) Tryd.underlying160 rfl rfl ty9.h⟩
instance : FldsC Tryd.prog 160 [(0, 1), (1, 1), (2, 1), (3, 1)] := ⟨⟨_, Tryd.underlying160, by kernel_rfl⟩⟩
instance : FldC Tryd.prog 161 0 0 := ⟨Fld.mk' (off := 0) Tryd.underlying161 rfl rfl ty17.h rfl⟩
instance : FldVC Tryd.prog 161 0 0 false 1 := ⟨FldV.mk' (off := 0) (agg := false) (sz := 1) Tryd.underlying161 rfl rfl ty17.h⟩
instance : FldC Tryd.prog 161 1 1 := ⟨Fld.mk' (off := 1) Tryd.underlying161 rfl rfl ty17.h rfl⟩
instance : FldVC Tryd.prog 161 1 1 false 1 := ⟨FldV.mk' (off := 1) (agg := false) (sz := 1) Tryd.underlying161 rfl rfl ty17.h⟩
instance : FldC Tryd.prog 161 2 2 := ⟨Fld.mk' (off := 2) Tryd.underlying161 rfl rfl ty17.h rfl⟩
instance : FldVC Tryd.prog 161 2 2 false 1 := ⟨FldV.mk' (off := 2) (agg := false) (sz := 1) Tryd.underlying161 rfl rfl ty17.h⟩
instance : FldC Tryd.prog 161 3 3 := ⟨Fld.mk' (off := 3) Tryd.underlying161 rfl rfl ty9.h rfl⟩
instance : FldVC Tryd.prog 161 3 3 false 1 := ⟨FldV.mk' (off := 3) (agg := false) (sz := 1) Tryd.underlying161 rfl rfl ty9.h⟩
instance : FldsC Tryd.prog 161 [(0, 1), (1, 1), (2, 1), (3, 1)] := ⟨⟨_, Tryd.underlying161, by kernel_rfl⟩⟩
instance : FldVC Tryd.prog 163 0 0 true 0 := ⟨FldV.mk' (off := 0) (agg := true) (sz := 0) Tryd.underlying163 rfl rfl ty162.h⟩
instance : FldsC Tryd.prog 163 [(0, 0)] := ⟨⟨_, Tryd.underlying163, by kernel_rfl⟩⟩
instance : FldVC Tryd.prog 164 0 0 true 0 := ⟨FldV.mk' (off := 0) (agg := true) (sz := 0) Tryd.underlying164 rfl rfl ty162.h⟩
instance : FldsC Tryd.prog 164 [(0, 0)] := ⟨⟨_, Tryd.underlying164, by kernel_rfl⟩⟩
instance : FldC Tryd.prog 170 0 0 := ⟨Fld.mk' (off := 0) Tryd.underlying170 rfl rfl ty12.h rfl⟩
instance : FldVC Tryd.prog 170 0 0 false 1 := ⟨FldV.mk' (off := 0) (agg := false) (sz := 1) Tryd.underlying170 rfl rfl ty12.h⟩
instance : FldC Tryd.prog 170 1 1 := ⟨Fld.mk' (off := 1) Tryd.underlying170 rfl rfl ty12.h rfl⟩
instance : FldVC Tryd.prog 170 1 1 false 1 := ⟨FldV.mk' (off := 1) (agg := false) (sz := 1) Tryd.underlying170 rfl rfl ty12.h⟩
instance : FldC Tryd.prog 170 2 2 := ⟨Fld.mk' (off := 2) Tryd.underlying170 rfl rfl ty126.h rfl⟩
instance : FldVC Tryd.prog 170 2 2 false 1 := ⟨FldV.mk' (off := 2) (agg := false) (sz := 1) Tryd.underlying170 rfl rfl ty126.h⟩
instance : FldC Tryd.prog 170 3 3 := ⟨Fld.mk' (off := 3) Tryd.underlying170 rfl rfl ty165.h rfl⟩
instance : FldVC Tryd.prog 170 3 3 false 1 := ⟨FldV.mk' (off := 3) (agg := false) (sz := 1) Tryd.underlying170 rfl rfl ty165.h⟩
instance : FldC Tryd.prog 170 4 4 := ⟨Fld.mk' (off := 4) Tryd.underlying170 rfl rfl ty5.h rfl⟩
instance : FldVC Tryd.prog 170 4 4 false 1 := ⟨FldV.mk' (off := 4) (agg := false) (sz := 1) Tryd.underlying170 rfl rfl ty5.h⟩
instance : FldC Tryd.prog 170 5 5 := ⟨Fld.mk' (off := 5) Tryd.underlying170 rfl rfl ty5.h rfl⟩
instance : FldVC Tryd.prog 170 5 5 false 1 := ⟨FldV.mk' (off := 5) (agg := false) (sz := 1) Tryd.underlying170 rfl rfl ty5.h⟩
instance : FldC Tryd.prog 170 6 6 := ⟨Fld.mk' (off := 6) Tryd.underlying170 rfl rfl ty166.h rfl⟩
instance : FldVC Tryd.prog 170 6 6 false 1 := ⟨FldV.mk' (off := 6) (agg := false) (sz := 1) Tryd.underlying170 rfl rfl ty166.h⟩
instance : FldC Tryd.prog 170 7 7 := ⟨Fld.mk' (off := 7) Tryd.underlying170 rfl rfl ty167.h rfl⟩
instance : FldVC Tryd.prog 170 7 7 false 1 := ⟨FldV.mk' (off := 7) (agg := false) (sz := 1) Tryd.underlying170 rfl rfl ty167.h⟩
instance : FldC Tryd.prog 170 8 8 := ⟨Fld.mk' (off := 8) Tryd.underlying170 rfl rfl ty149.h rfl⟩
instance : FldVC Tryd.prog 170 8 8 false 1 := ⟨FldV.mk' (off := 8) (agg := false) (sz := 1) Tryd.underlying170 rfl rfl ty149.h⟩
instance : FldC Tryd.prog 170 9 9 := ⟨Fld.mk' (off := 9) Tryd.underlying170 rfl rfl ty168.h rfl⟩
instance : FldVC Tryd.prog 170 9 9 false 1 := ⟨FldV.mk' (off := 9) (agg := false) (sz := 1) Tryd.underlying170 rfl rfl ty168.h⟩
instance : FldC Tryd.prog 170 10 10 := ⟨Fld.mk' (off := 10) Tryd.underlying170 rfl rfl ty169.h rfl⟩
instance : FldVC Tryd.prog 170 10 10 false 1 := ⟨FldV.mk' (off := 10) (agg := false) (sz := 1) Tryd.underlying170 rfl rfl ty169.h⟩
instance : FldsC Tryd.prog 170 [(0, 1), (1, 1), (2, 1), (3, 1), (4, 1), (5, 1), (6, 1), (7, 1), (8, 1), (9, 1), (10, 1)] := ⟨⟨_, Tryd.underlying170, by kernel_rfl⟩⟩
instance : FldC Tryd.prog 171 0 0 := ⟨Fld.mk' (off := 0) Tryd.underlying171 rfl rfl ty12.h rfl⟩
instance : FldVC Tryd.prog 171 0 0 false 1 := ⟨FldV.mk' (off := 0) (agg := false) (sz := 1) Tryd.underlying171 rfl rfl ty12.h⟩
instance : FldC Tryd.prog 171 1 1 := ⟨Fld.mk' (off := 1) Tryd.underlying171 rfl rfl ty12.h rfl⟩
instance : FldVC Tryd.prog 171 1 1 false 1 := ⟨FldV.mk' (off := 1) (agg := false) (sz := 1) Tryd.underlying171 rfl rfl ty12.h⟩
instance : FldC Tryd.prog 171 2 2 := ⟨Fld.mk' (off := 2) Tryd.underlying171 rfl rfl ty126.h rfl⟩
instance : FldVC Tryd.prog 171 2 2 false 1 := ⟨FldV.mk' (off := 2) (agg := false) (sz := 1) Tryd.underlying171 rfl rfl ty126.h⟩
instance : FldC Tryd.prog 171 3 3 := ⟨Fld.mk' (off := 3) Tryd.underlying171 rfl rfl ty165.h rfl⟩
instance : FldVC Tryd.prog 171 3 3 false 1 := ⟨FldV.mk' (off := 3) (agg := false) (sz := 1) Tryd.underlying171 rfl rfl ty165.h⟩
instance : FldC Tryd.prog 171 4 4 := ⟨Fld.mk' (off := 4) Tryd.underlying171 rfl rfl ty5.h rfl⟩
instance : FldVC Tryd.prog 171 4 4 false 1 := ⟨FldV.mk' (off := 4) (agg := false) (sz := 1) Tryd.underlying171 rfl rfl ty5.h⟩
instance : FldC Tryd.prog 171 5 5 := ⟨Fld.mk' (off := 5) Tryd.underlying171 rfl rfl ty5.h rfl⟩
instance : FldVC Tryd.prog 171 5 5 false 1 := ⟨FldV.mk' (off := 5) (agg := false) (sz := 1) Tryd.underlying171 rfl rfl ty5.h⟩
instance : FldC Tryd.prog 171 6 6 := ⟨Fld.mk' (off := 6) Tryd.underlying171 rfl rfl ty166.h rfl⟩
instance : FldVC Tryd.prog 171 6 6 false 1 := ⟨FldV.mk' (off := 6) (agg := false) (sz := 1) Tryd.underlying171 rfl rfl ty166.h⟩
instance : FldC Tryd.prog 171 7 7 := ⟨Fld.mk' (off := 7) Tryd.underlying171 rfl rfl ty167.h rfl⟩
instance : FldVC Tryd.prog 171 7 7 false 1 := ⟨FldV.mk' (off := 7) (agg := false) (sz := 1) Tryd.underlying171 rfl rfl ty167.h⟩
instance : FldC Tryd.prog 171 8 8 := ⟨Fld.mk' (off := 8) Tryd.underlying171 rfl rfl ty149.h rfl⟩
instance : FldVC Tryd.prog 171 8 8 false 1 := ⟨FldV.mk' (off := 8) (agg := false) (sz := 1) Tryd.underlying171 rfl rfl ty149.h⟩
instance : FldC Tryd.prog 171 9 9 := ⟨Fld.mk' (off := 9) Tryd.underlying171 rfl rfl ty168.h rfl⟩
instance : FldVC Tryd.prog 171 9 9 false 1 := ⟨FldV.mk' (off := 9) (agg := false) (sz := 1) Tryd.underlying171 rfl rfl ty168.h⟩
instance : FldC Tryd.prog 171 10 10 := ⟨Fld.mk' (off := 10) Tryd.underlying171 rfl rfl ty169.h rfl⟩
instance : FldVC Tryd.prog 171 10 10 false 1 := ⟨FldV.mk' (off := 10) (agg := false) (sz := 1) Tryd.underlying171 rfl rfl ty169.h⟩
instance : FldsC Tryd.prog 171 [(0, 1), (1, 1), (2, 1), (3, 1), (4, 1), (5, 1), (6, 1), (7, 1), (8, 1), (9, 1), (10, 1)] := ⟨⟨_, Tryd.underlying171, by kernel_rfl⟩⟩
instance : FunC Tryd.prog 2 := ⟨⟨Tryd.f2, Tryd.func2, by kernel_rfl, by kernel_rfl⟩⟩
instance : FunC Tryd.prog 3 := ⟨⟨Tryd.f3, Tryd.func3, by kernel_rfl, by kernel_rfl⟩⟩
instance : FunC Tryd.prog 4 := ⟨⟨Tryd.f4, Tryd.func4, by kernel_rfl, by kernel_rfl⟩⟩
instance : FunC Tryd.prog 5 := ⟨⟨Tryd.f5, Tryd.func5, by kernel_rfl, by kernel_rfl⟩⟩
instance : FunC Tryd.prog 6 := ⟨⟨Tryd.f6, Tryd.func6, by kernel_rfl, by kernel_rfl⟩⟩
instance : FunC Tryd.prog 7 := ⟨⟨Tryd.f7, Tryd.func7, by kernel_rfl, by kernel_rfl⟩⟩
instance : FunC Tryd.prog 8 := ⟨⟨Tryd.f8, Tryd.func8, by kernel_rfl, by kernel_rfl⟩⟩
instance : FunC Tryd.prog 9 := ⟨⟨Tryd.f9, Tryd.func9, by kernel_rfl, by kernel_rfl⟩⟩
instance : FunC Tryd.prog 10 := ⟨⟨Tryd.f10, Tryd.func10, by kernel_rfl, by kernel_rfl⟩⟩
instance : FunC Tryd.prog 11 := ⟨⟨Tryd.f11, Tryd.func11, by kernel_rfl, by kernel_rfl⟩⟩
instance : FunC Tryd.prog 12 := ⟨⟨Tryd.f12, Tryd.func12, by kernel_rfl, by kernel_rfl⟩⟩
instance : FunC Tryd.prog 13 := ⟨⟨Tryd.f13, Tryd.func13, by kernel_rfl, by kernel_rfl⟩⟩
instance : FunC Tryd.prog 14 := ⟨⟨Tryd.f14, Tryd.func14, by kernel_rfl, by kernel_rfl⟩⟩
instance : FunC Tryd.prog 15 := ⟨⟨Tryd.f15, Tryd.func15, by kernel_rfl, by kernel_rfl⟩⟩
instance : FunC Tryd.prog 16 := ⟨⟨Tryd.f16, Tryd.func16, by kernel_rfl, by kernel_rfl⟩⟩
instance : FunC Tryd.prog 17 := ⟨⟨Tryd.f17, Tryd.func17, by kernel_rfl, by kernel_rfl⟩⟩
instance : FunC Tryd.prog 18 := ⟨⟨Tryd.f18, Tryd.func18, by kernel_rfl, by kernel_rfl⟩⟩
instance : FunC Tryd.prog 19 := ⟨⟨Tryd.f19, Tryd.func19, by kernel_rfl, by kernel_rfl⟩⟩
instance : FunC Tryd.prog 20 := ⟨⟨Tryd.f20, Tryd.func20, by kernel_rfl, by kernel_rfl⟩⟩
instance : FunC Tryd.prog 21 := ⟨⟨Tryd.f21, Tryd.func21, by kernel_rfl, by kernel_rfl⟩⟩
instance : FunC Tryd.prog 22 := ⟨⟨Tryd.f22, Tryd.func22, by kernel_rfl, by kernel_rfl⟩⟩
instance : FunC Tryd.prog 23 := ⟨⟨Tryd.f23, Tryd.func23, by kernel_rfl, by kernel_rfl⟩⟩
instance : FunC Tryd.prog 24 := ⟨⟨Tryd.f24, Tryd.func24, by kernel_rfl, by kernel_rfl⟩⟩
instance : FunC Tryd.prog 25 := ⟨⟨Tryd.f25, Tryd.func25, by kernel_rfl, by kernel_rfl⟩⟩
instance : FunC Tryd.prog 26 := ⟨⟨Tryd.f26, Tryd.func26, by kernel_rfl, by kernel_rfl⟩⟩
instance : FunC Tryd.prog 27 := ⟨⟨Tryd.f27, Tryd.func27, by kernel_rfl, by kernel_rfl⟩⟩
instance : FunC Tryd.prog 28 := ⟨⟨Tryd.f28, Tryd.func28, by kernel_rfl, by kernel_rfl⟩⟩
instance : FunC Tryd.prog 29 := ⟨⟨Tryd.f29, Tryd.func29, by kernel_rfl, by kernel_rfl⟩⟩
instance : FunC Tryd.prog 30 := ⟨⟨Tryd.f30, Tryd.func30, by kernel_rfl, by kernel_rfl⟩⟩
instance : FunC Tryd.prog 31 := ⟨⟨Tryd.f31, Tryd.func31, by kernel_rfl, by kernel_rfl⟩⟩
instance : FunC Tryd.prog 32 := ⟨⟨Tryd.f32, Tryd.func32, by kernel_rfl, by kernel_rfl⟩⟩
instance : FunC Tryd.prog 33 := ⟨⟨Tryd.f33, Tryd.func33, by kernel_rfl, by kernel_rfl⟩⟩
instance : FunC Tryd.prog 34 := ⟨⟨Tryd.f34, Tryd.func34, by kernel_rfl, by kernel_rfl⟩⟩
instance : FunC Tryd.prog 35 := ⟨⟨Tryd.f35, Tryd.func35, by kernel_rfl, by kernel_rfl⟩⟩
instance : FunC Tryd.prog 36 := ⟨⟨Tryd.f36, Tryd.func36, by kernel_rfl, by kernel_rfl⟩⟩
instance : FunC Tryd.prog 37 := ⟨⟨Tryd.f37, Tryd.func37, by kernel_rfl, by kernel_rfl⟩⟩
instance : FunC Tryd.prog 38 := ⟨⟨Tryd.f38, Tryd.func38, by kernel_rfl, by kernel_rfl⟩⟩
instance : FunC Tryd.prog 39 := ⟨⟨Tryd.f39, Tryd.func39, by kernel_rfl, by kernel_rfl⟩⟩
instance : FunC Tryd.prog 40 := ⟨⟨Tryd.f40, Tryd.func40, by kernel_rfl, by kernel_rfl⟩⟩
instance : FunC Tryd.prog 41 := ⟨⟨Tryd.f41, Tryd.func41, by kernel_rfl, by kernel_rfl⟩⟩
instance : FunC Tryd.prog 42 := ⟨⟨Tryd.f42, Tryd.func42, by kernel_rfl, by kernel_rfl⟩⟩
instance : FunC Tryd.prog 43 := ⟨⟨Tryd.f43, Tryd.func43, by kernel_rfl, by kernel_rfl⟩⟩
instance : FunC Tryd.prog 44 := ⟨⟨Tryd.f44, Tryd.func44, by kernel_rfl, by kernel_rfl⟩⟩
instance : FunC Tryd.prog 45 := ⟨⟨Tryd.f45, Tryd.func45, by kernel_rfl, by kernel_rfl⟩⟩
instance : FunC Tryd.prog 46 := ⟨⟨Tryd.f46, Tryd.func46, by kernel_rfl, by kernel_rfl⟩⟩
instance : FunC Tryd.prog 47 := ⟨⟨Tryd.f47, Tryd.func47, by kernel_rfl, by kernel_rfl⟩⟩
instance : FunC Tryd.prog 48 := ⟨⟨Tryd.f48, Tryd.func48, by kernel_rfl, by kernel_rfl⟩⟩
instance : FunC Tryd.prog 49 := ⟨⟨Tryd.f49, Tryd.func49, by kernel_rfl, by kernel_rfl⟩⟩
instance : FunC Tryd.prog 50 := ⟨⟨Tryd.f50, Tryd.func50, by kernel_rfl, by kernel_rfl⟩⟩
instance : FunC Tryd.prog 51 := ⟨⟨Tryd.f51, Tryd.func51, by kernel_rfl, by kernel_rfl⟩⟩
instance : FunC Tryd.prog 52 := ⟨⟨Tryd.f52, Tryd.func52, by kernel_rfl, by kernel_rfl⟩⟩
instance : FunC Tryd.prog 53 := ⟨⟨Tryd.f53, Tryd.func53, by kernel_rfl, by kernel_rfl⟩⟩
instance : FunC Tryd.prog 54 := ⟨⟨Tryd.f54, Tryd.func54, by kernel_rfl, by kernel_rfl⟩⟩
instance : FunC Tryd.prog 55 := ⟨⟨Tryd.f55, Tryd.func55, by kernel_rfl, by kernel_rfl⟩⟩
instance : FunC Tryd.prog 56 := ⟨⟨Tryd.f56, Tryd.func56, by kernel_rfl, by kernel_rfl⟩⟩
instance : FunC Tryd.prog 57 := ⟨⟨Tryd.f57, Tryd.func57, by kernel_rfl, by kernel_rfl⟩⟩
instance : FunC Tryd.prog 58 := ⟨⟨Tryd.f58, Tryd.func58, by kernel_rfl, by kernel_rfl⟩⟩
instance : FunC Tryd.prog 59 := ⟨⟨Tryd.f59, Tryd.func59, by kernel_rfl, by kernel_rfl⟩⟩
instance : FunC Tryd.prog 60 := ⟨⟨Tryd.f60, Tryd.func60, by kernel_rfl, by kernel_rfl⟩⟩
instance : FunC Tryd.prog 61 := ⟨⟨Tryd.f61, Tryd.func61, by kernel_rfl, by kernel_rfl⟩⟩
instance : FunC Tryd.prog 62 := ⟨⟨Tryd.f62, Tryd.func62, by kernel_rfl, by kernel_rfl⟩⟩
instance : FunC Tryd.prog 63 := ⟨⟨Tryd.f63, Tryd.func63, by kernel_rfl, by kernel_rfl⟩⟩
instance : FunC Tryd.prog 64 := ⟨⟨Tryd.f64, Tryd.func64, by kernel_rfl, by kernel_rfl⟩⟩
instance : FunC Tryd.prog 65 := ⟨⟨Tryd.f65, Tryd.func65, by kernel_rfl, by kernel_rfl⟩⟩
instance : FunC Tryd.prog 66 := ⟨⟨Tryd.f66, Tryd.func66, by kernel_rfl, by kernel_rfl⟩⟩
instance : FunC Tryd.prog 67 := ⟨⟨Tryd.f67, Tryd.func67, by kernel_rfl, by kernel_rfl⟩⟩
instance : FunC Tryd.prog 68 := ⟨⟨Tryd.f68, Tryd.func68, by kernel_rfl, by kernel_rfl⟩⟩
instance : FunC Tryd.prog 69 := ⟨⟨Tryd.f69, Tryd.func69, by kernel_rfl, by kernel_rfl⟩⟩
instance : FunC Tryd.prog 70 := ⟨⟨Tryd.f70, Tryd.func70, by kernel_rfl, by kernel_rfl⟩⟩
instance : FunC Tryd.prog 71 := ⟨⟨Tryd.f71, Tryd.func71, by kernel_rfl, by kernel_rfl⟩⟩
instance : FunC Tryd.prog 72 := ⟨⟨Tryd.f72, Tryd.func72, by kernel_rfl, by kernel_rfl⟩⟩
instance : FunC Tryd.prog 73 := ⟨⟨Tryd.f73, Tryd.func73, by kernel_rfl, by kernel_rfl⟩⟩
instance : FunC Tryd.prog 74 := ⟨⟨Tryd.f74, Tryd.func74, by kernel_rfl, by kernel_rfl⟩⟩
instance : FunC Tryd.prog 75 := ⟨⟨Tryd.f75, Tryd.func75, by kernel_rfl, by kernel_rfl⟩⟩
instance : FunC Tryd.prog 76 := ⟨⟨Tryd.f76, Tryd.func76, by kernel_rfl, by kernel_rfl⟩⟩
instance : FunC Tryd.prog 77 := ⟨⟨Tryd.f77, Tryd.func77, by kernel_rfl, by kernel_rfl⟩⟩
instance : FunC Tryd.prog 78 := ⟨⟨Tryd.f78, Tryd.func78, by kernel_rfl, by kernel_rfl⟩⟩
instance : FunC Tryd.prog 79 := ⟨⟨Tryd.f79, Tryd.func79, by kernel_rfl, by kernel_rfl⟩⟩
instance : FunC Tryd.prog 80 := ⟨⟨Tryd.f80, Tryd.func80, by kernel_rfl, by kernel_rfl⟩⟩
instance : FunC Tryd.prog 81 := ⟨⟨Tryd.f81, Tryd.func81, by kernel_rfl, by kernel_rfl⟩⟩
instance : FunC Tryd.prog 82 := ⟨⟨Tryd.f82, Tryd.func82, by kernel_rfl, by kernel_rfl⟩⟩
instance : FunC Tryd.prog 83 := ⟨⟨Tryd.f83, Tryd.func83, by kernel_rfl, by kernel_rfl⟩⟩
instance : FunC Tryd.prog 84 := ⟨⟨Tryd.f84, Tryd.func84, by kernel_rfl, by kernel_rfl⟩⟩
instance : FunC Tryd.prog 85 := ⟨⟨Tryd.f85, Tryd.func85, by kernel_rfl, by kernel_rfl⟩⟩
instance : FunC Tryd.prog 86 := ⟨⟨Tryd.f86, Tryd.func86, by kernel_rfl, by kernel_rfl⟩⟩
instance : FunC Tryd.prog 87 := ⟨⟨Tryd.f87, Tryd.func87, by kernel_rfl, by kernel_rfl⟩⟩
instance : FunC Tryd.prog 88 := ⟨⟨Tryd.f88, Tryd.func88, by kernel_rfl, by kernel_rfl⟩⟩
instance : FunC Tryd.prog 89 := ⟨⟨Tryd.f89, Tryd.func89, by kernel_rfl, by kernel_rfl⟩⟩
instance : FunC Tryd.prog 90 := ⟨⟨Tryd.f90, Tryd.func90, by kernel_rfl, by kernel_rfl⟩⟩
instance : FunC Tryd.prog 91 := ⟨⟨Tryd.f91, Tryd.func91, by kernel_rfl, by kernel_rfl⟩⟩
instance : FunC Tryd.prog 92 := ⟨⟨Tryd.f92, Tryd.func92, by kernel_rfl, by kernel_rfl⟩⟩
instance : FunC Tryd.prog 93 := ⟨⟨Tryd.f93, Tryd.func93, by kernel_rfl, by kernel_rfl⟩⟩
instance : FunC Tryd.prog 94 := ⟨⟨Tryd.f94, Tryd.func94, by kernel_rfl, by kernel_rfl⟩⟩
instance : FunC Tryd.prog 95 := ⟨⟨Tryd.f95, Tryd.func95, by kernel_rfl, by kernel_rfl⟩⟩
instance : FunC Tryd.prog 96 := ⟨⟨Tryd.f96, Tryd.func96, by kernel_rfl, by kernel_rfl⟩⟩
instance : FunC Tryd.prog 97 := ⟨⟨Tryd.f97, Tryd.func97, by kernel_rfl, by kernel_rfl⟩⟩
instance : FunC Tryd.prog 98 := ⟨⟨Tryd.f98, Tryd.func98, by kernel_rfl, by kernel_rfl⟩⟩
instance : FunC Tryd.prog 99 := ⟨⟨Tryd.f99, Tryd.func99, by kernel_rfl, by kernel_rfl⟩⟩
instance : FunC Tryd.prog 100 := ⟨⟨Tryd.f100, Tryd.func100, by kernel_rfl, by kernel_rfl⟩⟩
instance : FunC Tryd.prog 101 := ⟨⟨Tryd.f101, Tryd.func101, by kernel_rfl, by kernel_rfl⟩⟩
instance : FunC Tryd.prog 107 := ⟨⟨Tryd.f107, Tryd.func107, by kernel_rfl, by kernel_rfl⟩⟩
end Go.Proofs.YtokbhcnomffopaaDoor
end

section
/- The contracts of what tells whether a document may be: chars, cells, lines, doc. -/
set_option linter.unusedVariables false
set_option linter.unusedSimpArgs false
set_option maxHeartbeats 4000000
namespace Go.Proofs.YtokbhcnomffopaaDoor
open Go Go.QL

theorem validRune_calls (c : Int) : ICalls Tryd.prog 78 [.int .i32 c] [] (fun u _ => u = .bool (vrune c)) := by
  refine x_enter Tryd.func78 Tryd.ntmps78 ?_
  refine ic_seq ?_
  refine ic_region ?_
  refine x_op ?_
  refine il_nil ?_
  refine ic_seq ?_
  refine ic_block ?_ -- 0
  refine x_mid [3] [4, 5, 6, 7, 8, 9] (fun vs σ => vs = [.bool (decide (0 ≤ c) && decide (c < 55296))] ∧ σ = []) ?_ ?_
  · refine ic_region ?_
    repeat' (first | refine x_op ?_ | refine n_op ?_ | refine y_op ?_ | refine il_split (fun _ => ?_) (fun _ => ?_) | refine il_nil ?_)
    all_goals exact x_there
  rintro vs σ ⟨rfl, rfl⟩
  simp only [sets, nf]
  refine ic_cond rfl (fun hc => ?_) (fun hc => ?_) -- t3
  · -- true
    refine ic_seq ?_
    refine ic_region ?_
    refine x_op ?_
    refine il_nil ?_
    refine ic_ret ?_
    repeat (first | with_reducible refine it_ret ?_ | with_reducible refine ib_ret ?_)
    exact x_ret1v Tryd.results78 (he := by simp only [vrune, hc, Bool.true_or])
  · -- false
    refine x_mid [10] [11, 12, 13, 14, 15, 16] (fun vs σ => vs = [.bool (decide (57343 < c) && decide (c ≤ 1114111))] ∧ σ = []) ?_ ?_
    · refine ic_region ?_
      repeat' (first | refine x_op ?_ | refine n_op ?_ | refine y_op ?_ | refine il_split (fun _ => ?_) (fun _ => ?_) | refine il_nil ?_)
      all_goals exact x_there
    rintro vs σ ⟨rfl, rfl⟩
    simp only [sets, nf]
    refine ic_cond rfl (fun hc2 => ?_) (fun hc2 => ?_) -- t10
    · -- true
      refine ic_seq ?_
      refine ic_region ?_
      refine x_op ?_
      refine il_nil ?_
      refine ic_ret ?_
      repeat (first | with_reducible refine it_ret ?_ | with_reducible refine ib_ret ?_)
      exact x_ret1v Tryd.results78 (he := by simp only [vrune, hc2, Bool.or_true])
    · -- false
      refine ic_skip ?_
      refine ic_seq ?_
      refine ic_region ?_
      refine x_op ?_
      refine il_nil ?_
      refine ic_ret ?_
      repeat (first | with_reducible refine it_ret ?_ | with_reducible refine ib_ret ?_)
      exact x_ret1v Tryd.results78 (he := by simp only [vrune, hc, hc2, Bool.or_false])
theorem class_calls (c : Int) : ICalls Tryd.prog 75 [.int .i32 c] [] (fun u _ => u = .int .i64 (cls c)) := by
  refine x_enter Tryd.func75 Tryd.ntmps75 ?_
  refine ic_seq ?_
  refine ic_region ?_
  refine x_op ?_
  refine il_nil ?_
  refine ic_seq ?_
  refine ic_block ?_
  refine ic_seq ?_
  refine ic_block ?_
  refine ic_seq ?_
  refine ic_block ?_
  refine ic_block ?_
  refine ic_block ?_
  refine ic_seq ?_
  refine ic_block ?_
  refine ic_seq ?_
  refine ic_block ?_
  refine ic_seq ?_
  refine ic_block ?_
  refine ic_block ?_
  refine ic_seq ?_
  refine ic_block ?_
  refine ic_seq ?_
  refine ic_seq ?_
  refine ic_seq ?_
  refine ic_region ?_
  refine x_op ?_
  refine x_cv (validRune_calls c) ?_
  refine x_op ?_
  refine x_op ?_
  refine il_nil ?_
  refine ic_cond rfl (fun h1 => ?_) (fun h1 => ?_) -- t3
  · refine ic_exit ?_ -- 1
    refine ic_seq ?_
    refine ic_seq ?_
    refine ic_region ?_
    refine x_op ?_
    refine il_nil ?_
    refine ic_ret ?_
    repeat (first | with_reducible refine it_ret ?_ | with_reducible refine ib_ret ?_)
    exact x_ret1v Tryd.results75 (he := by simp [cls, show vrune c = false by simpa using h1])
  have hv : vrune c = true := by simpa using h1
  refine ic_skip ?_
  refine ic_seq ?_
  refine ic_seq ?_
  refine ic_region ?_
  refine x_op ?_
  refine x_op ?_
  refine x_op ?_
  refine il_nil ?_
  refine ic_cond rfl (fun g2 => ?_) (fun g2 => ?_)
  · have g2 := of_decide_eq_true g2
    refine ic_exit ?_
    refine ic_seq ?_
    refine ic_seq ?_
    refine ic_region ?_
    refine x_op ?_
    refine il_nil ?_
    refine ic_ret ?_
    repeat (first | with_reducible refine it_ret ?_ | with_reducible refine ib_ret ?_)
    exact x_ret1v Tryd.results75 (he := by rw [cls_is hv]; (repeat' split) <;> first | rfl | (exfalso; omega))
  have g2 := of_decide_eq_false g2
  refine ic_skip ?_
  refine ic_seq ?_
  refine ic_seq ?_
  refine ic_region ?_
  refine x_op ?_
  refine x_op ?_
  refine x_op ?_
  refine il_nil ?_
  refine ic_cond rfl (fun g3 => ?_) (fun g3 => ?_)
  · have g3 := of_decide_eq_true g3
    refine ic_exit ?_
    refine ic_seq ?_
    refine ic_seq ?_
    refine ic_region ?_
    refine x_op ?_
    refine il_nil ?_
    refine ic_ret ?_
    repeat (first | with_reducible refine it_ret ?_ | with_reducible refine ib_ret ?_)
    exact x_ret1v Tryd.results75 (he := by rw [cls_is hv]; (repeat' split) <;> first | rfl | (exfalso; omega))
  have g3 := of_decide_eq_false g3
  refine ic_skip ?_
  refine ic_seq ?_
  refine x_mid [13] [14, 15, 16, 17] (fun vs σ => vs = [.bool (decide (c = 32) || decide (c = 160))] ∧ σ = []) ?_ ?_
  ·
    refine ic_seq ?_
    refine ic_region ?_
    refine x_op ?_
    refine x_op ?_
    refine x_op ?_
    refine il_nil ?_
    refine ic_cond rfl (fun hc => ?_) (fun hc => ?_) -- t13
    · -- true
      refine ic_skip ?_
      exact x_there
    · -- false
      refine ic_region ?_
      refine x_op ?_
      refine x_op ?_
      refine x_op ?_
      refine il_nil ?_
      exact x_there
  rintro vs σ ⟨rfl, rfl⟩
  simp only [sets, nf]
  refine ic_cond rfl (fun g4 => ?_) (fun g4 => ?_)
  · simp only [Bool.or_eq_true, decide_eq_true_eq] at g4
    refine ic_exit ?_
    refine ic_seq ?_
    refine ic_seq ?_
    refine ic_region ?_
    refine x_op ?_
    refine il_nil ?_
    refine ic_ret ?_
    repeat (first | with_reducible refine it_ret ?_ | with_reducible refine ib_ret ?_)
    exact x_ret1v Tryd.results75 (he := by rw [cls_is hv]; (repeat' split) <;> first | rfl | (exfalso; omega))
  simp only [Bool.or_eq_false_iff, decide_eq_false_iff_not] at g4
  refine ic_skip ?_
  refine ic_seq ?_
  refine ic_seq ?_
  refine ic_region ?_
  refine x_op ?_
  refine x_op ?_
  refine x_op ?_
  refine il_nil ?_
  refine ic_cond rfl (fun g5 => ?_) (fun g5 => ?_)
  · have g5 := of_decide_eq_true g5
    refine ic_exit ?_
    refine ic_seq ?_
    refine ic_seq ?_
    refine ic_region ?_
    refine x_op ?_
    refine il_nil ?_
    refine ic_ret ?_
    repeat (first | with_reducible refine it_ret ?_ | with_reducible refine ib_ret ?_)
    exact x_ret1v Tryd.results75 (he := by rw [cls_is hv]; (repeat' split) <;> first | rfl | (exfalso; omega))
  have g5 := of_decide_eq_false g5
  refine ic_skip ?_
  refine ic_seq ?_
  refine x_mid [21] [22, 23, 24, 25, 26, 27] (fun vs σ => vs = [.bool (decide (97 ≤ c) && decide (c ≤ 122))] ∧ σ = []) ?_ ?_
  · refine ic_region ?_
    repeat' (first | refine x_op ?_ | refine n_op ?_ | refine y_op ?_ | refine il_split (fun _ => ?_) (fun _ => ?_) | refine il_nil ?_)
    all_goals exact x_there
  rintro vs σ ⟨rfl, rfl⟩
  simp only [sets, nf]
  refine ic_cond rfl (fun g6 => ?_) (fun g6 => ?_)
  · simp only [Bool.and_eq_true, decide_eq_true_eq] at g6
    refine ic_exit ?_
    refine ic_seq ?_
    refine ic_seq ?_
    refine ic_region ?_
    refine x_op ?_
    refine il_nil ?_
    refine ic_ret ?_
    repeat (first | with_reducible refine it_ret ?_ | with_reducible refine ib_ret ?_)
    exact x_ret1v Tryd.results75 (he := by rw [cls_is hv]; (repeat' split) <;> first | rfl | (exfalso; omega))
  simp only [Bool.and_eq_false_imp, decide_eq_true_eq, decide_eq_false_iff_not] at g6
  refine ic_skip ?_
  refine ic_seq ?_
  refine x_mid [28] [29, 30, 31, 32, 33, 34] (fun vs σ => vs = [.bool (decide (65 ≤ c) && decide (c ≤ 90))] ∧ σ = []) ?_ ?_
  · refine ic_region ?_
    repeat' (first | refine x_op ?_ | refine n_op ?_ | refine y_op ?_ | refine il_split (fun _ => ?_) (fun _ => ?_) | refine il_nil ?_)
    all_goals exact x_there
  rintro vs σ ⟨rfl, rfl⟩
  simp only [sets, nf]
  refine ic_cond rfl (fun g7 => ?_) (fun g7 => ?_)
  · simp only [Bool.and_eq_true, decide_eq_true_eq] at g7
    refine ic_exit ?_
    refine ic_seq ?_
    refine ic_seq ?_
    refine ic_region ?_
    refine x_op ?_
    refine il_nil ?_
    refine ic_ret ?_
    repeat (first | with_reducible refine it_ret ?_ | with_reducible refine ib_ret ?_)
    exact x_ret1v Tryd.results75 (he := by rw [cls_is hv]; (repeat' split) <;> first | rfl | (exfalso; omega))
  simp only [Bool.and_eq_false_imp, decide_eq_true_eq, decide_eq_false_iff_not] at g7
  refine ic_skip ?_
  refine ic_seq ?_
  refine ic_seq ?_
  refine ic_region ?_
  refine x_op ?_
  refine x_op ?_
  refine x_op ?_
  refine il_nil ?_
  refine ic_cond rfl (fun g8 => ?_) (fun g8 => ?_)
  · have g8 := of_decide_eq_true g8
    refine ic_exit ?_
    refine ic_seq ?_
    refine ic_seq ?_
    refine ic_region ?_
    refine x_op ?_
    refine il_nil ?_
    refine ic_ret ?_
    repeat (first | with_reducible refine it_ret ?_ | with_reducible refine ib_ret ?_)
    exact x_ret1v Tryd.results75 (he := by rw [cls_is hv]; (repeat' split) <;> first | rfl | (exfalso; omega))
  have g8 := of_decide_eq_false g8
  refine ic_skip ?_
  refine x_mid [38] [39, 40, 41, 42, 43, 44] (fun vs σ => vs = [.bool (decide (48 ≤ c) && decide (c ≤ 57))] ∧ σ = []) ?_ ?_
  · refine ic_region ?_
    repeat' (first | refine x_op ?_ | refine n_op ?_ | refine y_op ?_ | refine il_split (fun _ => ?_) (fun _ => ?_) | refine il_nil ?_)
    all_goals exact x_there
  rintro vs σ ⟨rfl, rfl⟩
  simp only [sets, nf]
  refine ic_cond rfl (fun g9 => ?_) (fun g9 => ?_)
  · simp only [Bool.and_eq_true, decide_eq_true_eq] at g9
    refine ic_exit ?_
    refine ic_seq ?_
    refine ic_seq ?_
    refine ic_region ?_
    refine x_op ?_
    refine il_nil ?_
    refine ic_ret ?_
    repeat (first | with_reducible refine it_ret ?_ | with_reducible refine ib_ret ?_)
    exact x_ret1v Tryd.results75 (he := by rw [cls_is hv]; (repeat' split) <;> first | rfl | (exfalso; omega))
  simp only [Bool.and_eq_false_imp, decide_eq_true_eq, decide_eq_false_iff_not] at g9
  refine ic_skip ?_
  refine ic_exit ?_ -- 0
  refine ic_seq ?_
  refine ic_region ?_
  refine x_op ?_
  refine il_nil ?_
  refine ic_ret ?_
  repeat (first | with_reducible refine it_ret ?_ | with_reducible refine ib_ret ?_)
  exact x_ret1v Tryd.results75 (he := by rw [cls_is hv]; (repeat' split) <;> first | rfl | (exfalso; omega))
theorem charMay_calls (c : Int) : ICalls Tryd.prog 70 [.int .i32 c] [] (fun u _ => u = .bool (charMay c)) := by
  refine x_enter Tryd.func70 Tryd.ntmps70 ?_
  refine ic_seq ?_
  refine ic_region ?_
  refine x_op ?_
  refine il_nil ?_
  refine ic_seq ?_
  refine ic_region ?_
  refine x_op ?_
  refine x_cv (class_calls c) ?_
  refine x_op ?_
  refine x_op ?_
  refine il_nil ?_
  refine ic_ret ?_
  repeat (first | with_reducible refine it_ret ?_ | with_reducible refine ib_ret ?_)
  exact x_res1 Tryd.results70 rfl
/-- What is taken of attrs.Target: it answers T, at the links of a text. -/
abbrev TargetOf (T : Str → Bool) (h : Str) : Prop := h ≠ ⟨#[]⟩ → ICalls Tryd.prog 76 [.str h] [] (fun u _ => u = .bool (T h))
theorem link_calls (T : Str → Bool) (h : Str) (hT : TargetOf T h) : ICalls Tryd.prog 71 [.str h] [] (fun u _ => u = .bool (linkMay T h)) := by
  refine x_enter Tryd.func71 Tryd.ntmps71 ?_
  refine ic_seq ?_
  refine ic_region ?_
  refine x_op ?_
  refine il_nil ?_
  refine x_mid [2] [3, 4, 5, 6, 7, 8] (fun vs σ => vs = [.bool (linkMay T h)] ∧ σ = []) ?_ ?_
  · refine ic_region ?_
    by_cases hh : h = ⟨#[]⟩
    · have e : linkMay T h = true := by simp [linkMay, hh]
      rw [e]
      refine x_op ?_
      refine x_op ?_
      simp only [decide_eq_true hh]
      refine x_op ?_
      refine n_op ?_
      refine n_op ?_
      refine x_op ?_
      refine x_op ?_
      refine il_nil ?_
      exact x_there
    · have e : linkMay T h = T h := by simp [linkMay, hh]
      rw [e]
      refine x_op ?_
      refine x_op ?_
      simp only [decide_eq_false hh]
      refine x_op ?_
      refine y_op ?_
      refine y_cv (hT hh) ?_
      refine x_op ?_
      refine x_op ?_
      refine il_nil ?_
      exact x_there
  rintro vs σ ⟨rfl, rfl⟩
  simp only [sets, nf]
  refine ic_ret ?_
  repeat (first | with_reducible refine it_ret ?_ | with_reducible refine ib_ret ?_)
  exact x_res1 Tryd.results71 rfl
theorem celMay1_calls (T : Str → Bool) (c : Cel) (hT : TargetOf T c.href) : ICalls Tryd.prog 69 [eC c] [] (fun u _ => u = .bool (celNot T c)) := by
  refine x_enter Tryd.func69 Tryd.ntmps69 ?_
  refine ic_seq ?_
  refine ic_region ?_
  refine x_op ?_
  refine x_op ?_
  refine il_nil ?_
  refine x_mid [2] [3, 4, 5, 6, 7, 8, 9, 10, 11, 12, 13, 14, 15, 16, 17, 18, 19, 20, 21, 22, 23, 24, 25, 26, 27] (fun vs σ => vs = [.bool ((((!charMay c.r && !decide (c.r = 10)) || decide (c.bits < 0)) || decide (15 < c.bits)) || !linkMay T c.href)] ∧ σ = [.box 37 (clc c)]) ?_ ?_
  · refine ic_region ?_
    refine x_op ?_
    refine x_op ?_
    refine x_cv (charMay_calls c.r) ?_
    repeat' (first | refine x_op ?_ | refine n_op ?_ | refine x_cv (link_calls T c.href hT) ?_ | refine y_cv (link_calls T c.href hT) ?_ | refine y_op ?_ | refine il_split (fun _ => ?_) (fun _ => ?_) | refine il_nil ?_)
    all_goals exact x_there
  rintro vs σ ⟨rfl, rfl⟩
  simp only [sets, nf]
  refine ic_ret ?_
  repeat (first | with_reducible refine it_ret ?_ | with_reducible refine ib_ret ?_)
  exact x_res1 Tryd.results69 rfl
theorem idxFC_calls (l : List Cel) (b : Bool) (g : Nat) (fs cs : List IV) (p : Cel → Bool) (hl : l.length ≤ 4294967296) [FunC Tryd.prog g] (hg : ∀ x ∈ l, ICalls Tryd.prog g (fs ++ [eC x] ++ cs) [] (fun u _ => u = .bool (p x))) (hd : Dat (.fn (.func g) fs cs)) (hfs : ∀ x ∈ fs, Dat x) (hcs : ∀ x ∈ cs, Dat x) :
    ICalls Tryd.prog 74 [.sl b (l.map eC), .fn (.func g) fs cs] [] (fun u _ => u = .int .i64 (fidx p l 0)) := by
  refine x_enter Tryd.func74 Tryd.ntmps74 ?_
  refine ic_seq ?_
  refine ic_region ?_
  refine x_op ?_
  refine il_nil ?_
  refine ic_seq ?_
  refine ic_seq ?_
  refine ic_region ?_
  refine x_op ?_
  refine x_op ?_
  refine x_op ?_
  refine il_nil ?_
  refine ic_block ?_ -- 0
  refine x_loop [8] [4, 5, 9, 10, 11, 12, 13, 14, 15, 16, 17, 18] (fun m vs σ => ∃ i : Nat, i ≤ l.length ∧ m = l.length - i ∧ vs = [.int .i64 i] ∧ σ = [] ∧ fidx p l 0 = fidx p (l.drop i) i) ⟨0, Nat.zero_le _, rfl, rfl, rfl, rfl⟩ ?_
  rintro m vs σ ⟨i, hi, rfl, rfl, rfl, hf⟩
  simp only [sets, nf]
  refine ic_seq ?_
  refine ic_region ?_
  refine x_op ?_
  refine il_nil ?_
  refine ic_seq ?_
  refine ic_cond rfl (fun hc => ?_) (fun hc => ?_) -- t9
  · -- true
    have hil : i < l.length := by have := of_decide_eq_true hc; omega
    have hix : (l.map eC)[((i : Nat) : Int).toNat]? = some (eC l[i]) := by simp [hil]
    have hdr : l.drop i = l[i] :: l.drop (i + 1) := List.drop_eq_getElem_cons hil
    have hdat : ∀ x ∈ fs ++ [eC l[i]] ++ cs, Dat x := fun x hx => by
      rcases List.mem_append.1 hx with hx | hx
      · rcases List.mem_append.1 hx with hx | hx
        · exact hfs x hx
        · rw [List.mem_singleton.1 hx]; exact dat_eC _
      · exact hcs x hx
    refine ic_skip ?_
    refine ic_seq ?_
    refine ic_block ?_ -- 1
    refine ic_seq ?_
    refine ic_region ?_
    refine x_op ?_
    refine x_op ?_
    refine il_nil ?_
    refine ic_seq ?_
    refine ic_region ?_
    refine x_op ?_
    refine x_op ?_
    refine x_op ?_
    refine x_op ?_
    refine x_op ?_
    refine x_callv ((hg l[i] (List.getElem_mem hil)).frame1 hdat (.bool _) _) ?_
    refine il_nil ?_
    rw [hdr, fidx] at hf
    refine ic_cond rfl (fun hc => ?_) (fun hc => ?_) -- t16
    · -- true
      rw [if_pos hc] at hf
      rw [hf]
      refine ic_seq ?_
      refine ic_region ?_
      refine x_op ?_
      refine x_op ?_
      refine il_nil ?_
      refine ic_ret ?_
      repeat (first | with_reducible refine it_ret ?_ | with_reducible refine ib_ret ?_)
      exact x_res1 Tryd.results74 rfl
    · -- false
      rw [if_neg (by rw [hc]; simp)] at hf
      refine ic_skip ?_
      refine ic_region ?_
      refine x_op ?_
      refine x_op ?_
      refine il_nil ?_
      exact x_next (l.length - (i + 1)) ⟨i + 1, by omega, rfl, rfl, rfl, hf⟩ (by omega) -- round
  · -- false
    obtain rfl : i = l.length := by have := of_decide_eq_false hc; omega
    rw [List.drop_length, fidx] at hf
    rw [hf]
    refine ic_exit ?_ -- 0
    refine ic_seq ?_
    refine ic_region ?_
    refine x_op ?_
    refine il_nil ?_
    refine ic_ret ?_
    repeat (first | with_reducible refine it_ret ?_ | with_reducible refine ib_ret ?_)
    exact x_res1 Tryd.results74 rfl
theorem cntFC_calls (l : List Cel) (b : Bool) (g : Nat) (fs cs : List IV) (p : Cel → Bool) (hl : l.length ≤ 4294967296) [FunC Tryd.prog g] (hg : ∀ x ∈ l, ICalls Tryd.prog g (fs ++ [eC x] ++ cs) [] (fun u _ => u = .bool (p x))) (hd : Dat (.fn (.func g) fs cs)) (hfs : ∀ x ∈ fs, Dat x) (hcs : ∀ x ∈ cs, Dat x) :
    ICalls Tryd.prog 68 [.sl b (l.map eC), .fn (.func g) fs cs] [] (fun u _ => u = .bool (l.any p)) := by
  have hany := fidx_any p l 0
  refine x_enter Tryd.func68 Tryd.ntmps68 ?_
  refine ic_seq ?_
  refine ic_region ?_
  refine x_op ?_
  refine il_nil ?_
  refine ic_seq ?_
  refine ic_region ?_
  refine x_op ?_
  refine x_op ?_
  refine x_cv (idxFC_calls l b g fs cs p hl hg hd hfs hcs) ?_ (hd := dat_cons (Dat.sl (dat_map dat_eC _)) (dat_cons hd dat_nil))
  refine x_op ?_
  refine x_op ?_
  refine il_nil ?_
  refine ic_ret ?_
  repeat (first | with_reducible refine it_ret ?_ | with_reducible refine ib_ret ?_)
  exact x_ret1v Tryd.results68 (he := congrArg IV.bool hany)
theorem idxFL_calls (l : List Lin) (b : Bool) (g : Nat) (fs cs : List IV) (p : Lin → Bool) (hl : l.length ≤ 4294967296) [FunC Tryd.prog g] (hg : ∀ x ∈ l, ICalls Tryd.prog g (fs ++ [eL x] ++ cs) [] (fun u _ => u = .bool (p x))) (hd : Dat (.fn (.func g) fs cs)) (hfs : ∀ x ∈ fs, Dat x) (hcs : ∀ x ∈ cs, Dat x) :
    ICalls Tryd.prog 57 [.sl b (l.map eL), .fn (.func g) fs cs] [] (fun u _ => u = .int .i64 (fidx p l 0)) := by
  refine x_enter Tryd.func57 Tryd.ntmps57 ?_
  refine ic_seq ?_
  refine ic_region ?_
  refine x_op ?_
  refine il_nil ?_
  refine ic_seq ?_
  refine ic_seq ?_
  refine ic_region ?_
  refine x_op ?_
  refine x_op ?_
  refine x_op ?_
  refine il_nil ?_
  refine ic_block ?_ -- 0
  refine x_loop [8] [4, 5, 9, 10, 11, 12, 13, 14, 15, 16, 17, 18] (fun m vs σ => ∃ i : Nat, i ≤ l.length ∧ m = l.length - i ∧ vs = [.int .i64 i] ∧ σ = [] ∧ fidx p l 0 = fidx p (l.drop i) i) ⟨0, Nat.zero_le _, rfl, rfl, rfl, rfl⟩ ?_
  rintro m vs σ ⟨i, hi, rfl, rfl, rfl, hf⟩
  simp only [sets, nf]
  refine ic_seq ?_
  refine ic_region ?_
  refine x_op ?_
  refine il_nil ?_
  refine ic_seq ?_
  refine ic_cond rfl (fun hc => ?_) (fun hc => ?_) -- t9
  · -- true
    have hil : i < l.length := by have := of_decide_eq_true hc; omega
    have hix : (l.map eL)[((i : Nat) : Int).toNat]? = some (eL l[i]) := by simp [hil]
    have hdr : l.drop i = l[i] :: l.drop (i + 1) := List.drop_eq_getElem_cons hil
    have hdat : ∀ x ∈ fs ++ [eL l[i]] ++ cs, Dat x := fun x hx => by
      rcases List.mem_append.1 hx with hx | hx
      · rcases List.mem_append.1 hx with hx | hx
        · exact hfs x hx
        · rw [List.mem_singleton.1 hx]; exact dat_eL _
      · exact hcs x hx
    refine ic_skip ?_
    refine ic_seq ?_
    refine ic_block ?_ -- 1
    refine ic_seq ?_
    refine ic_region ?_
    refine x_op ?_
    refine x_op ?_
    refine il_nil ?_
    refine ic_seq ?_
    refine ic_region ?_
    refine x_op ?_
    refine x_op ?_
    refine x_op ?_
    refine x_op ?_
    refine x_op ?_
    refine x_callv ((hg l[i] (List.getElem_mem hil)).frame1 hdat (.bool _) _) ?_
    refine il_nil ?_
    rw [hdr, fidx] at hf
    refine ic_cond rfl (fun hc => ?_) (fun hc => ?_) -- t16
    · -- true
      rw [if_pos hc] at hf
      rw [hf]
      refine ic_seq ?_
      refine ic_region ?_
      refine x_op ?_
      refine x_op ?_
      refine il_nil ?_
      refine ic_ret ?_
      repeat (first | with_reducible refine it_ret ?_ | with_reducible refine ib_ret ?_)
      exact x_res1 Tryd.results57 rfl
    · -- false
      rw [if_neg (by rw [hc]; simp)] at hf
      refine ic_skip ?_
      refine ic_region ?_
      refine x_op ?_
      refine x_op ?_
      refine il_nil ?_
      exact x_next (l.length - (i + 1)) ⟨i + 1, by omega, rfl, rfl, rfl, hf⟩ (by omega) -- round
  · -- false
    obtain rfl : i = l.length := by have := of_decide_eq_false hc; omega
    rw [List.drop_length, fidx] at hf
    rw [hf]
    refine ic_exit ?_ -- 0
    refine ic_seq ?_
    refine ic_region ?_
    refine x_op ?_
    refine il_nil ?_
    refine ic_ret ?_
    repeat (first | with_reducible refine it_ret ?_ | with_reducible refine ib_ret ?_)
    exact x_res1 Tryd.results57 rfl
theorem cntFL_calls (l : List Lin) (b : Bool) (g : Nat) (fs cs : List IV) (p : Lin → Bool) (hl : l.length ≤ 4294967296) [FunC Tryd.prog g] (hg : ∀ x ∈ l, ICalls Tryd.prog g (fs ++ [eL x] ++ cs) [] (fun u _ => u = .bool (p x))) (hd : Dat (.fn (.func g) fs cs)) (hfs : ∀ x ∈ fs, Dat x) (hcs : ∀ x ∈ cs, Dat x) :
    ICalls Tryd.prog 41 [.sl b (l.map eL), .fn (.func g) fs cs] [] (fun u _ => u = .bool (l.any p)) := by
  have hany := fidx_any p l 0
  refine x_enter Tryd.func41 Tryd.ntmps41 ?_
  refine ic_seq ?_
  refine ic_region ?_
  refine x_op ?_
  refine il_nil ?_
  refine ic_seq ?_
  refine ic_region ?_
  refine x_op ?_
  refine x_op ?_
  refine x_cv (idxFL_calls l b g fs cs p hl hg hd hfs hcs) ?_ (hd := dat_cons (Dat.sl (dat_map dat_eL _)) (dat_cons hd dat_nil))
  refine x_op ?_
  refine x_op ?_
  refine il_nil ?_
  refine ic_ret ?_
  repeat (first | with_reducible refine it_ret ?_ | with_reducible refine ib_ret ?_)
  exact x_ret1v Tryd.results41 (he := congrArg IV.bool hany)
theorem idxFI_calls (l : List Int) (b : Bool) (g : Nat) (fs cs : List IV) (p : Int → Bool) (hl : l.length ≤ 4294967296) [FunC Tryd.prog g] (hg : ∀ x ∈ l, ICalls Tryd.prog g (fs ++ [eI x] ++ cs) [] (fun u _ => u = .bool (p x))) (hd : Dat (.fn (.func g) fs cs)) (hfs : ∀ x ∈ fs, Dat x) (hcs : ∀ x ∈ cs, Dat x) :
    ICalls Tryd.prog 67 [.sl b (l.map eI), .fn (.func g) fs cs] [] (fun u _ => u = .int .i64 (fidx p l 0)) := by
  refine x_enter Tryd.func67 Tryd.ntmps67 ?_
  refine ic_seq ?_
  refine ic_region ?_
  refine x_op ?_
  refine il_nil ?_
  refine ic_seq ?_
  refine ic_seq ?_
  refine ic_region ?_
  refine x_op ?_
  refine x_op ?_
  refine x_op ?_
  refine il_nil ?_
  refine ic_block ?_ -- 0
  refine x_loop [8] [4, 5, 9, 10, 11, 12, 13, 14, 15, 16, 17, 18] (fun m vs σ => ∃ i : Nat, i ≤ l.length ∧ m = l.length - i ∧ vs = [.int .i64 i] ∧ σ = [] ∧ fidx p l 0 = fidx p (l.drop i) i) ⟨0, Nat.zero_le _, rfl, rfl, rfl, rfl⟩ ?_
  rintro m vs σ ⟨i, hi, rfl, rfl, rfl, hf⟩
  simp only [sets, nf]
  refine ic_seq ?_
  refine ic_region ?_
  refine x_op ?_
  refine il_nil ?_
  refine ic_seq ?_
  refine ic_cond rfl (fun hc => ?_) (fun hc => ?_) -- t9
  · -- true
    have hil : i < l.length := by have := of_decide_eq_true hc; omega
    have hix : (l.map eI)[((i : Nat) : Int).toNat]? = some (eI l[i]) := by simp [hil]
    have hdr : l.drop i = l[i] :: l.drop (i + 1) := List.drop_eq_getElem_cons hil
    have hdat : ∀ x ∈ fs ++ [eI l[i]] ++ cs, Dat x := fun x hx => by
      rcases List.mem_append.1 hx with hx | hx
      · rcases List.mem_append.1 hx with hx | hx
        · exact hfs x hx
        · rw [List.mem_singleton.1 hx]; exact dat_eI _
      · exact hcs x hx
    refine ic_skip ?_
    refine ic_seq ?_
    refine ic_block ?_ -- 1
    refine ic_seq ?_
    refine ic_region ?_
    refine x_op ?_
    refine x_op ?_
    refine il_nil ?_
    refine ic_seq ?_
    refine ic_region ?_
    refine x_op ?_
    refine x_op ?_
    refine x_op ?_
    refine x_op ?_
    refine x_op ?_
    refine x_callv ((hg l[i] (List.getElem_mem hil)).frame1 hdat (.bool _) _) ?_
    refine il_nil ?_
    rw [hdr, fidx] at hf
    refine ic_cond rfl (fun hc => ?_) (fun hc => ?_) -- t16
    · -- true
      rw [if_pos hc] at hf
      rw [hf]
      refine ic_seq ?_
      refine ic_region ?_
      refine x_op ?_
      refine x_op ?_
      refine il_nil ?_
      refine ic_ret ?_
      repeat (first | with_reducible refine it_ret ?_ | with_reducible refine ib_ret ?_)
      exact x_res1 Tryd.results67 rfl
    · -- false
      rw [if_neg (by rw [hc]; simp)] at hf
      refine ic_skip ?_
      refine ic_region ?_
      refine x_op ?_
      refine x_op ?_
      refine il_nil ?_
      exact x_next (l.length - (i + 1)) ⟨i + 1, by omega, rfl, rfl, rfl, hf⟩ (by omega) -- round
  · -- false
    obtain rfl : i = l.length := by have := of_decide_eq_false hc; omega
    rw [List.drop_length, fidx] at hf
    rw [hf]
    refine ic_exit ?_ -- 0
    refine ic_seq ?_
    refine ic_region ?_
    refine x_op ?_
    refine il_nil ?_
    refine ic_ret ?_
    repeat (first | with_reducible refine it_ret ?_ | with_reducible refine ib_ret ?_)
    exact x_res1 Tryd.results67 rfl
theorem cntFI_calls (l : List Int) (b : Bool) (g : Nat) (fs cs : List IV) (p : Int → Bool) (hl : l.length ≤ 4294967296) [FunC Tryd.prog g] (hg : ∀ x ∈ l, ICalls Tryd.prog g (fs ++ [eI x] ++ cs) [] (fun u _ => u = .bool (p x))) (hd : Dat (.fn (.func g) fs cs)) (hfs : ∀ x ∈ fs, Dat x) (hcs : ∀ x ∈ cs, Dat x) :
    ICalls Tryd.prog 58 [.sl b (l.map eI), .fn (.func g) fs cs] [] (fun u _ => u = .bool (l.any p)) := by
  have hany := fidx_any p l 0
  refine x_enter Tryd.func58 Tryd.ntmps58 ?_
  refine ic_seq ?_
  refine ic_region ?_
  refine x_op ?_
  refine il_nil ?_
  refine ic_seq ?_
  refine ic_region ?_
  refine x_op ?_
  refine x_op ?_
  refine x_cv (idxFI_calls l b g fs cs p hl hg hd hfs hcs) ?_ (hd := dat_cons (Dat.sl (dat_map dat_eI _)) (dat_cons hd dat_nil))
  refine x_op ?_
  refine x_op ?_
  refine il_nil ?_
  refine ic_ret ?_
  repeat (first | with_reducible refine it_ret ?_ | with_reducible refine ib_ret ?_)
  exact x_ret1v Tryd.results58 (he := congrArg IV.bool hany)
theorem cellsMay_calls (T : Str → Bool) (l : List Cel) (b : Bool) (hl : l.length ≤ 4294967296) (hT : ∀ c ∈ l, TargetOf T c.href) : ICalls Tryd.prog 60 [.sl b (l.map eC)] [] (fun u _ => u = .bool (!l.any (celNot T))) := by
  refine x_enter Tryd.func60 Tryd.ntmps60 ?_
  refine ic_seq ?_
  refine ic_region ?_
  refine x_op ?_
  refine il_nil ?_
  refine ic_seq ?_
  refine ic_region ?_
  refine x_op ?_
  refine x_cv (cntFC_calls l b 69 [] [] (celNot T) hl (fun x hx => celMay1_calls T x (hT x hx)) (Dat.fn dat_nil dat_nil) dat_nil dat_nil) ?_
  refine x_op ?_
  refine x_op ?_
  refine il_nil ?_
  refine ic_ret ?_
  repeat (first | with_reducible refine it_ret ?_ | with_reducible refine ib_ret ?_)
  exact x_res1 Tryd.results60 rfl
theorem lstNot_calls (k : Int) : ICalls Tryd.prog 59 [.int .i64 k] [] (fun u _ => u = .bool (lstNot k)) := by
  refine x_enter Tryd.func59 Tryd.ntmps59 ?_
  refine ic_seq ?_
  refine ic_region ?_
  refine x_op ?_
  refine il_nil ?_
  refine x_mid [2] [3, 4, 5, 6, 7, 8] (fun vs σ => vs = [.bool (!decide (k = 0) && !decide (k = 1))] ∧ σ = []) ?_ ?_
  · refine ic_region ?_
    repeat' (first | refine x_op ?_ | refine n_op ?_ | refine y_op ?_ | refine il_split (fun _ => ?_) (fun _ => ?_) | refine il_nil ?_)
    all_goals exact x_there
  rintro vs σ ⟨rfl, rfl⟩
  simp only [sets, nf]
  refine ic_ret ?_
  repeat (first | with_reducible refine it_ret ?_ | with_reducible refine ib_ret ?_)
  exact x_res1 Tryd.results59 rfl
theorem linMay_calls (T : Str → Bool) (l : Lin) (hl : l.cells.length ≤ 4294967296) (hT : ∀ c ∈ l.cells, TargetOf T c.href) (hl2 : l.lists.length ≤ 4294967296) : ICalls Tryd.prog 43 [eL l] [] (fun u _ => u = .bool (linMay T l)) := by
  refine x_enter Tryd.func43 Tryd.ntmps43 ?_
  refine ic_seq ?_
  refine ic_region ?_
  refine x_op ?_
  refine x_op ?_
  refine il_nil ?_
  refine ic_seq ?_
  refine ic_block ?_ -- 0
  refine x_mid [3] [4, 5, 6, 7, 8, 9, 10, 11, 12, 13, 14, 15, 16, 17, 18, 19, 20, 21, 22, 23, 24, 25, 26, 27] (fun vs σ => vs = [.bool ((((decide (l.quote < 0) || decide (6 < l.quote)) || decide (6 < (l.lists.length : Int))) || decide (l.kind < 0)) || decide (3 < l.kind))] ∧ σ = [.box 26 (lnc l)]) ?_ ?_
  · refine ic_region ?_
    repeat' (first | refine x_op ?_ | refine n_op ?_ | refine y_op ?_ | refine il_split (fun _ => ?_) (fun _ => ?_) | refine il_nil ?_)
    all_goals exact x_there
  rintro vs σ ⟨rfl, rfl⟩
  simp only [sets, nf]
  refine ic_cond rfl (fun h1 => ?_) (fun h1 => ?_) -- t3
  · -- true
    refine ic_seq ?_
    refine ic_region ?_
    refine x_op ?_
    refine il_nil ?_
    refine ic_ret ?_
    repeat (first | with_reducible refine it_ret ?_ | with_reducible refine ib_ret ?_)
    exact x_ret1v Tryd.results43 (he := by rw [linMay, lin1, h1]; rfl)
  refine x_mid [28] [29, 30, 31, 32, 33, 34, 35, 36, 37] (fun vs σ => vs = [.bool (decide (0 < (l.lists.length : Int)) && !decide (l.kind = 0))] ∧ σ = [.box 26 (lnc l)]) ?_ ?_
  · refine ic_region ?_
    repeat' (first | refine x_op ?_ | refine n_op ?_ | refine y_op ?_ | refine il_split (fun _ => ?_) (fun _ => ?_) | refine il_nil ?_)
    all_goals exact x_there
  rintro vs σ ⟨rfl, rfl⟩
  simp only [sets, nf]
  refine ic_cond rfl (fun h2 => ?_) (fun h2 => ?_) -- t28
  · -- true
    refine ic_seq ?_
    refine ic_region ?_
    refine x_op ?_
    refine il_nil ?_
    refine ic_ret ?_
    repeat (first | with_reducible refine it_ret ?_ | with_reducible refine ib_ret ?_)
    exact x_ret1v Tryd.results43 (he := by rw [linMay, lin1, h1, lin2, h2]; rfl)
  refine ic_skip ?_
  refine x_mid [2] [38, 39, 40, 41, 42, 43, 44, 45, 46] (fun vs σ => vs = [.bool (!(l.lists.any lstNot) && !(l.cells.any (celNot T)))] ∧ σ = [.box 26 (lnc l)]) ?_ ?_
  · refine ic_region ?_
    refine x_op ?_
    refine x_op ?_
    refine x_cv (cntFI_calls l.lists false 59 [] [] lstNot hl2 (fun x hx => lstNot_calls x) (Dat.fn dat_nil dat_nil) dat_nil dat_nil) ?_
    repeat' (first | refine x_op ?_ | refine n_op ?_ | refine x_cv (cellsMay_calls T l.cells false hl hT) ?_ | refine y_cv (cellsMay_calls T l.cells false hl hT) ?_ | refine y_op ?_ | refine il_split (fun _ => ?_) (fun _ => ?_) | refine il_nil ?_)
    all_goals exact x_there
  rintro vs σ ⟨rfl, rfl⟩
  simp only [sets, nf]
  refine ic_ret ?_
  repeat (first | with_reducible refine it_ret ?_ | with_reducible refine ib_ret ?_)
  exact x_ret1v Tryd.results43 (he := by rw [linMay, lin1, h1, lin2, h2]; rfl)
theorem dsize_calls (d : List Lin) (b : Bool) (hl : d.length ≤ 4294967296) (hs : dsize d ≤ 1099511627776) : ICalls Tryd.prog 40 [.sl b (d.map eL)] [] (fun u _ => u = .int .i64 (dsize d : Nat)) := by
  refine x_enter Tryd.func40 Tryd.ntmps40 ?_
  refine ic_seq ?_
  refine ic_region ?_
  refine x_op ?_
  refine il_nil ?_
  refine ic_seq ?_
  refine ic_region ?_
  refine x_op ?_
  refine il_nil ?_
  refine ic_seq ?_
  refine ic_seq ?_
  refine ic_region ?_
  refine x_op ?_
  refine x_op ?_
  refine x_op ?_
  refine il_nil ?_
  refine ic_block ?_ -- 0
  refine x_loop [3, 8] [5, 9, 10, 11, 12, 13, 14, 15, 16, 17] (fun m vs σ => ∃ i : Nat, i ≤ d.length ∧ m = d.length - i ∧ vs = [.int .i64 (dsize (d.take i) : Nat), .int .i64 i] ∧ σ = []) ⟨0, Nat.zero_le _, rfl, rfl, rfl⟩ ?_
  rintro m vs σ ⟨i, hi, rfl, rfl, rfl⟩
  simp only [sets, nf]
  refine ic_seq ?_
  refine ic_region ?_
  refine x_op ?_
  refine il_nil ?_
  refine ic_seq ?_
  refine ic_cond rfl (fun hc => ?_) (fun hc => ?_) -- t9
  · -- true
    have hil : i < d.length := by have := of_decide_eq_true hc; omega
    have hix : (d.map eL)[((i : Nat) : Int).toNat]? = some (eL d[i]) := by simp [hil]
    have h1 := dsize_take d i hil
    have h2 := dsize_take_le d (i + 1)
    refine ic_skip ?_
    refine ic_seq ?_
    refine ic_block ?_ -- 1
    refine ic_seq ?_
    refine ic_region ?_
    refine x_op ?_
    refine x_op ?_
    refine x_op ?_
    refine x_op ?_
    refine il_nil ?_
    refine ic_region ?_
    refine x_op ?_
    refine x_op ?_
    refine x_op ?_
    refine x_op ?_
    refine x_op ?_
    refine x_op ?_
    refine il_nil ?_
    refine ic_region ?_
    refine x_op ?_
    refine x_op ?_
    refine il_nil ?_
    rw [show ((dsize (d.take i) : Nat) : Int) + (d[i].cells.length : Int) = ((dsize (d.take (i + 1)) : Nat) : Int) by omega]
    exact x_next (d.length - (i + 1)) ⟨i + 1, by omega, rfl, rfl, rfl⟩ (by omega) -- round
  · -- false
    obtain rfl : i = d.length := by have := of_decide_eq_false hc; omega
    rw [List.take_length]
    refine ic_exit ?_ -- 0
    refine ic_seq ?_
    refine ic_region ?_
    refine x_op ?_
    refine x_op ?_
    refine il_nil ?_
    refine ic_ret ?_
    repeat (first | with_reducible refine it_ret ?_ | with_reducible refine ib_ret ?_)
    exact x_res1 Tryd.results40 rfl
/-- What is taken of a document: its links' targets; how long it is. -/
structure DocIn (T : Str → Bool) (d : List Lin) : Prop where
  t : ∀ l ∈ d, ∀ c ∈ l.cells, TargetOf T c.href
  n : d.length ≤ 4294967296
  c : dsize d ≤ 16777216
  l : ∀ l ∈ d, l.lists.length ≤ 16777216
theorem DocIn.cells {T : Str → Bool} {d : List Lin} (h : DocIn T d) : ∀ l ∈ d, l.cells.length ≤ 16777216 := fun l hl => by
  have hc := h.c
  have : l.cells.length ≤ dsize d := by
    have : ∀ d : List Lin, l ∈ d → l.cells.length ≤ dsize d := by
      intro d
      induction d with
      | nil => intro h; cases h
      | cons x d ih =>
        intro h
        simp only [dsize, List.map_cons, List.sum_cons] at ih ⊢
        rcases List.mem_cons.1 h with rfl | h
        · omega
        · have := ih h; omega
    exact this d hl
  omega
theorem docMay1_calls (T : Str → Bool) (l : Lin) (hl : l.cells.length ≤ 4294967296) (hT : ∀ c ∈ l.cells, TargetOf T c.href) (hl2 : l.lists.length ≤ 4294967296) : ICalls Tryd.prog 42 [eL l] [] (fun u _ => u = .bool (!linMay T l)) := by
  refine x_enter Tryd.func42 Tryd.ntmps42 ?_
  refine ic_seq ?_
  refine ic_region ?_
  refine x_op ?_
  refine x_op ?_
  refine il_nil ?_
  refine ic_seq ?_
  refine ic_region ?_
  refine x_op ?_
  refine x_cv (linMay_calls T l hl hT hl2) ?_
  refine x_op ?_
  refine x_op ?_
  refine il_nil ?_
  refine ic_ret ?_
  repeat (first | with_reducible refine it_ret ?_ | with_reducible refine ib_ret ?_)
  exact x_res1 Tryd.results42 rfl
theorem docMay_calls (T : Str → Bool) (d : List Lin) (b : Bool) (h : DocIn T d) : ICalls Tryd.prog 25 [.sl b (d.map eL)] [] (fun u _ => u = .bool (docMay T d)) := by
  have hn := h.n
  have hz := h.c
  refine x_enter Tryd.func25 Tryd.ntmps25 ?_
  refine ic_seq ?_
  refine ic_region ?_
  refine x_op ?_
  refine il_nil ?_
  refine x_mid [2] [3, 4, 5, 6, 7, 8, 9, 10, 11, 12, 13, 14, 15, 16, 17, 18, 19, 20] (fun vs σ => vs = [.bool (((decide (1 ≤ (d.length : Int)) && decide ((d.length : Int) ≤ 200)) && decide ((dsize d : Int) ≤ 4000)) && !(d.any fun l => !linMay T l))] ∧ σ = []) ?_ ?_
  · refine ic_region ?_
    repeat' (first | refine x_op ?_ | refine n_op ?_ | refine x_cv (dsize_calls d b hn (by omega)) ?_ | refine y_cv (dsize_calls d b hn (by omega)) ?_ | refine x_cv (cntFL_calls d b 42 [] [] (fun l => !linMay T l) hn (fun x hx => docMay1_calls T x (by have := h.cells x hx; omega) (h.t x hx) (by have := h.l x hx; omega)) (Dat.fn dat_nil dat_nil) dat_nil dat_nil) ?_ | refine y_cv (cntFL_calls d b 42 [] [] (fun l => !linMay T l) hn (fun x hx => docMay1_calls T x (by have := h.cells x hx; omega) (h.t x hx) (by have := h.l x hx; omega)) (Dat.fn dat_nil dat_nil) dat_nil dat_nil) ?_ | refine y_op ?_ | refine il_split (fun _ => ?_) (fun _ => ?_) | refine il_nil ?_)
    all_goals exact x_there
  rintro vs σ ⟨rfl, rfl⟩
  simp only [sets, nf]
  refine ic_ret ?_
  repeat (first | with_reducible refine it_ret ?_ | with_reducible refine ib_ret ?_)
  exact x_res1 Tryd.results25 rfl
end Go.Proofs.YtokbhcnomffopaaDoor
end

section
/- QL, part y: slices that are made, cut and copied within one row of the call's own (elements of one cell). Plain; no program in sight. -/
set_option linter.unusedVariables false
set_option linter.unusedSimpArgs false
namespace Go.QL
open Go Go.RowKit

section
variable {P : Program} {r : RN} {o : Oper} {e : Val2} {σ : List IObj}
theorem heap_new (w : World) (o : Obj) : (w.alloc o).heap[w.heap.size]? = some o := by
  show (w.heap.push o)[w.heap.size]? = some o
  simp
theorem exec_copy {T T' : TypeId} {A : Act} {w w' : World} {s x : Operand} {v' : Value} (ho : o.op = .call { callee := .builtin .copy, args := #[s, x], argTypes := #[T, T'] }) (h : (Builtin.copy_ #[T, T'] o.type #[A.eval s, A.eval x]).run P w = .ok v' w') :
    (execOp A.eval o).run P w = .ok (.value v') w' := by
  simp [execOp, ho, resolve, invoke, builtin, Sem.run_bind, h, Result.andThen]
theorem flats_rep (u : IV) (h : flat u = [u]) : ∀ n, flats (List.replicate n u) = List.replicate n u
  | 0 => rfl
  | n + 1 => by
    have := flats_rep u h n
    simp only [flats, List.replicate_succ, List.flatMap_cons] at this ⊢
    rw [this, h]; rfl
theorem op_makeSlice {T E : TypeId} {x y : Operand} {z : Value} {bytes : Nat} {kl kc : IntKind} {n : Nat} {u : IV} (hT : P.underlying T = some (.slice E)) (hE : Ty P E false z 1 bytes) (hz : z.cells = #[z]) (ho : o.op = .makeSlice T x y) (hx : e x = .int kl n) (hy : e y = .int kc n) (hu : cst1 z = u) (hf : flat u = [u])
    (hb : bytes * n ≤ 281474976710656) (hm : n ≤ 140737488355328) : OpQ P r o e σ (.row σ.length n) (σ ++ [.row E 1 (List.replicate n u)]) := by
  subst hu
  refine opk_val (by rw [ho]; rfl) fun W0 D ρ w A hst ha => ?_
  have h1 := ha x (by simp [ho, Op.operands]); rw [hx] at h1
  have h2 := ha y (by simp [ho, Op.operands]); rw [hy] at h2
  obtain ⟨i, hi, hiz, his, hib⟩ := hE.info
  have hbz : (i.bytes : Int) * (n : Int) ≤ 281474976710656 := by
    have h : ((bytes * n : Nat) : Int) ≤ 281474976710656 := by omega
    rw [hib]
    rwa [Int.natCast_mul] at h
  have hrun := run_make (P := P) w T E i z hT hi hiz kl kc n n (by omega) (Int.le_refl _) hbz (by omega)
  simp only [Int.toNat_natCast, his, Nat.mul_one] at hrun
  have hcells : (madeCells z.cells n).toList = List.replicate n z := by rw [hz]; exact toList_madeCells_one z n
  have hsz : (madeCells z.cells n).size = n := by rw [← Array.length_toList, hcells, List.length_replicate]
  have hro : RowOk (w.alloc (.cells (madeCells z.cells n) E)) 0 E 1 (.slice (some ⟨w.heap.size, 0, none⟩) n n) n (List.replicate n z) := by
    refine ⟨by simp, ?_⟩
    rcases Nat.eq_zero_or_pos n with h0 | h0
    · subst h0; exact .inl ⟨rfl, _, rfl⟩
    · refine .inr ⟨w.heap.size, n, madeCells z.cells n, h0, rfl, Nat.zero_le _, heap_new w _, Nat.le_refl _, by unfold maxLen; omega, by rw [hsz, Nat.mul_one], ?_⟩
      rw [Nat.mul_one, hcells, List.take_of_length_le (by simp)]
  have hbk : hblk (.slice (some ⟨w.heap.size, 0, none⟩) n n) = none ∨ (hblk (.slice (some ⟨w.heap.size, 0, none⟩) n n) = some w.heap.size ∧ w.heap.size < (w.alloc (.cells (madeCells z.cells n) E)).heap.size) := by
    rcases Nat.eq_zero_or_pos n with h0 | h0
    · subst h0; exact .inl rfl
    · refine .inr ⟨?_, by simp⟩
      simp only [hblk]; rw [if_neg (by omega)]
  have hrep : ∀ (D : DM) (ρ : List Slot), Rel2 D ρ (flats (List.replicate n (cst1 z))) (List.replicate n z) := fun D ρ => by
    rw [flats_rep _ hf]
    refine ⟨by simp, fun i u v e1 e2 => ?_⟩
    rw [List.eq_of_mem_replicate (List.mem_of_getElem? e1), List.eq_of_mem_replicate (List.mem_of_getElem? e2)]
    exact vr_cst1 _ _ z
  obtain ⟨h3, h4⟩ := hst.pushRow (n := n) (v := .slice (some ⟨w.heap.size, 0, none⟩) n n) (World.grownBy_alloc w _ none) hbk (.row E 1 (List.replicate n (cst1 z))) fun x => ⟨by simp, (fun y hy => by rw [List.eq_of_mem_replicate hy, hf]; rfl), by omega, _, hro, hrep _ _⟩
  refine ⟨D, _, _, _, _, _, by simp only [execOp, ho, h1.int_inv, h2.int_inv, Sem.run_bind, hrun, Result.andThen_ok]; rfl, h4, h3, ?_, rfl, rfl⟩
  refine .row _ _ _ _ ?_
  unfold RowAt
  rw [← hst.len, List.getElem?_append_right (Nat.le_refl _), Nat.sub_self]
  exact ⟨Nat.le_refl _, fun _ => rfl⟩
/-- A part of a row of the call's own. -/
theorem op_sliceRl {T E E0 : TypeId} {x l : Operand} {z : Value} {bytes k n : Nat} {agg : Bool} {xs : List IV} {kl : IntKind} {m : Int} (hT : P.underlying T = some (.slice E0)) (hE : Ty P E0 agg z 1 bytes) (ho : o.op = .slice T x (some l) none none) (hx : e x = .row k n) (hl : e l = .int kl m) (hk : σ[k]? = some (.row E 1 xs)) (hn : n = xs.length)
    (h0 : 0 ≤ m) (h1 : m < n) : OpQ P r o e σ (.rsub k n m.toNat (n - m.toNat)) σ := by
  subst hn
  refine opq_pure (by rw [ho]; rfl) fun W0 D ρ w A hs ha => ?_
  have e1 := ha x (by simp [ho, Op.operands]); rw [hx] at e1
  have e2 := ha l (by simp [ho, Op.operands]); rw [hl] at e2; have e2 := e2.int_inv
  obtain ⟨v, hρ, hfl, hsz, vs, hro, hrel⟩ := hs.row_at hk
  have hv := e1.row_eq hρ
  rcases hro.2 with ⟨h, _⟩ | ⟨g, cap, cur, hc, rfl, hg0, hh, hnc, hcm, hcs, htake⟩
  · omega
  · refine ⟨.slice (some ⟨g, m.toNat, none⟩) (xs.length - m.toNat) (cap - m.toNat), ?_, .rsub _ _ _ _ _ _ ?_⟩
    · have hne : ¬ cap = m.toNat := by omega
      simp [execOp, ho, e2, hv, Instr.sliceAt, Instr.slice, Instr.sliceBounds, Instr.sliceBound, asIntOf, Sem.run_bind, run_underlying hT, Result.andThen, h0, show m ≤ (xs.length : Int) by omega, hE.sizeOf, Addr_add, hne]
    · unfold EltAt
      rw [hρ]
      exact ⟨Nat.le_refl _, fun _ => ⟨g, by simp [hblk]; omega, rfl⟩⟩
theorem op_sliceRh {T E E0 : TypeId} {x l : Operand} {z : Value} {bytes k n : Nat} {agg : Bool} {xs : List IV} {kl : IntKind} {m : Int} (hT : P.underlying T = some (.slice E0)) (hE : Ty P E0 agg z 1 bytes) (ho : o.op = .slice T x none (some l) none) (hx : e x = .row k n) (hl : e l = .int kl m) (hk : σ[k]? = some (.row E 1 xs)) (hn : n = xs.length)
    (h0 : 0 < n) (h1 : 0 ≤ m) (h2 : m ≤ n) : OpQ P r o e σ (.rsub k n 0 m.toNat) σ := by
  subst hn
  refine opq_pure (by rw [ho]; rfl) fun W0 D ρ w A hs ha => ?_
  have e1 := ha x (by simp [ho, Op.operands]); rw [hx] at e1
  have e2 := ha l (by simp [ho, Op.operands]); rw [hl] at e2; have e2 := e2.int_inv
  obtain ⟨v, hρ, hfl, hsz, vs, hro, hrel⟩ := hs.row_at hk
  have hv := e1.row_eq hρ
  rcases hro.2 with ⟨h, _⟩ | ⟨g, cap, cur, hc, rfl, hg0, hh, hnc, hcm, hcs, htake⟩
  · omega
  · refine ⟨.slice (some ⟨g, 0, none⟩) m.toNat cap, ?_, .rsub _ _ _ _ _ _ ?_⟩
    · have hne : ¬ cap = 0 := by omega
      simp [execOp, ho, e2, hv, Instr.sliceAt, Instr.slice, Instr.sliceBounds, Instr.sliceBound, asIntOf, Sem.run_bind, run_underlying hT, Result.andThen, h1, show m ≤ (cap : Int) by omega, hE.sizeOf, Addr_add, hne]
    · unfold EltAt
      rw [hρ]
      exact ⟨Nat.le_refl _, fun _ => ⟨g, by simp [hblk]; omega, rfl⟩⟩
theorem flats_one {xs : List IV} (h : ∀ x ∈ xs, flat x = [x]) : flats xs = xs := by
  induction xs with
  | nil => rfl
  | cons x xs ih =>
    have := ih fun y hy => h y (List.mem_cons_of_mem _ hy)
    simp only [flats, List.flatMap_cons] at this ⊢
    rw [this, h x (List.mem_cons_self ..)]; rfl
/-- copy within one row of the call's own. -/
theorem op_copyR {T T' E : TypeId} {s x : Operand} {z : Value} {bytes k n m len : Nat} {agg : Bool} {xs : List IV} (hT : P.underlying T = some (.slice E)) (hE : Ty P E agg z 1 bytes) (ho : o.op = .call { callee := .builtin .copy, args := #[s, x], argTypes := #[T, T'] }) (hs1 : e s = .rsub k n m (n - m)) (hx : e x = .rsub k n 0 len)
    (hk : σ[k]? = some (.row E 1 xs)) (hn : n = xs.length) (hm : m < n) (hlen : len ≤ n) (hgo : ∀ x ∈ xs, flat x = [x]) (hone : ∀ x ∈ xs, x.one = true) :
    OpQ P r o e σ (.int .i64 (min len (n - m) : Nat)) (σ.set k (.row E 1 (xs.take m ++ xs.take (min len (n - m)) ++ xs.drop (m + min len (n - m))))) := by
  subst hn
  refine opk_val (by rw [ho]; rfl) fun W0 D ρ w A hs ha => ?_
  have h1 := ha s (by simp [ho, Op.operands, Call.operands]); rw [hs1] at h1
  have h2 := ha x (by simp [ho, Op.operands, Call.operands]); rw [hx] at h2
  obtain ⟨v, hρ, hfl, hsz, vs, hro, hrel⟩ := hs.row_at hk
  rw [flats_one hgo] at hrel
  rcases hro.2 with ⟨h, _⟩ | ⟨g, cap, cur, hc, rfl, hg0, hh, hnc, hcm, hcs, htake⟩
  · omega
  · have hb0 : hblk (.slice (some ⟨g, 0, none⟩) xs.length cap) = some g := by simp [hblk]; omega
    have hrs : ∀ {off l : Nat} {val : Value}, VR D ρ (.rsub k xs.length off l) val → ∃ c, val = .slice (some ⟨g, off, none⟩) l c := by
      intro off l val h
      cases h with
      | rsub _ _ _ _ A c h =>
        unfold EltAt at h
        rw [hρ] at h
        obtain ⟨b, e1, e2⟩ := h.2 rfl
        rw [hb0] at e1
        cases e1
        exact ⟨c, by rw [e2]⟩
    obtain ⟨c1, hv1⟩ := hrs h1
    obtain ⟨c2, hv2⟩ := hrs h2
    simp only [Nat.mul_one] at hcs htake
    have hvl : vs.length = xs.length := by have := hro.1; omega
    have hcur : cur.toList.take xs.length = vs := htake
    have hq : min len (xs.length - m) ≤ xs.length := by omega
    have hsrc : ∀ j v, (vs.take (min len (xs.length - m)))[j]? = some v → w.cell? ((⟨g, 0, none⟩ : Addr).add j) = some v := by
      intro j v ej
      rw [Addr_add, Nat.zero_add, cells_at hh]
      rw [List.getElem?_take] at ej
      split at ej
      · rw [← hcur, List.getElem?_take] at ej
        split at ej
        · simpa using ej
        · cases ej
      · cases ej
    have hl4 : (vs.take (min len (xs.length - m))).length = min len (xs.length - m) := by rw [List.length_take]; omega
    have hrun := run_copy_row (P := P) w T T' o.type E g m (xs.length - m) c1 ⟨g, 0, none⟩ len c2 cur E (vs.take (min len (xs.length - m))) hT (by obtain ⟨i, hi, _, his, _⟩ := hE.info; rw [hi]; simp [his]) hh hl4 hsrc (by rw [hl4]; omega) (fun v hv => by
      have hv2 := List.mem_of_mem_take hv
      obtain ⟨j, hj⟩ := List.getElem?_of_mem hv2
      have hjl : j < xs.length := by rw [← hvl]; exact (List.getElem?_eq_some_iff.1 hj).1
      exact (hrel.2 j xs[j] v (List.getElem?_eq_getElem hjl) hj).one (hone _ (List.getElem_mem hjl)))
    rw [hl4] at hrun
    have hcl : cur.toList.length = cap := by simpa using hcs
    refine ⟨D, ρ, .int .i64 (min len (xs.length - m) : Nat), .int .i64 (min len (xs.length - m) : Nat), _, _, ?_, .refl _ _, hs.set hρ hb0 (.row E 1 (xs.take m ++ xs.take (min len (xs.length - m)) ++ xs.drop (m + min len (xs.length - m)))) ⟨?_, ?_, by omega, vs.take m ++ vs.take (min len (xs.length - m)) ++ vs.drop (m + min len (xs.length - m)), ⟨?_, .inr ⟨g, cap, (cur.toList.take m ++ vs.take (min len (xs.length - m)) ++ cur.toList.drop (m + min len (xs.length - m))).toArray, hc, rfl, hg0, setRow_heap w g cur _ E _ hh, hnc, hcm, ?_, ?_⟩⟩, ?_⟩ rfl rfl rfl (by simp) (fun i hi => setRow_other w g i _ hi), .int _ _, rfl, rfl⟩
    · exact exec_copy ho (by rw [hv1, hv2]; exact hrun)
    · simp only [List.length_append, List.length_take, List.length_drop]; omega
    · intro y hy
      rcases List.mem_append.1 hy with hy | hy
      · rcases List.mem_append.1 hy with hy | hy
        · rw [hgo y (List.mem_of_mem_take hy)]; rfl
        · rw [hgo y (List.mem_of_mem_take hy)]; rfl
      · rw [hgo y (List.mem_of_mem_drop hy)]; rfl
    · simp only [List.length_append, List.length_take, List.length_drop, hvl]; omega
    · simp only [List.size_toArray, List.length_append, List.length_take, List.length_drop, hl4, hcl, Nat.mul_one, hvl]; omega
    · rw [Nat.mul_one]
      apply List.ext_getElem?
      intro i
      rw [List.getElem?_take, List.append_assoc, List.append_assoc]
      rw [get3 _ _ _ m (min len (xs.length - m)) i (by rw [List.length_take]; omega) hl4, get3 _ _ _ m (min len (xs.length - m)) i (by rw [List.length_take, hvl]; omega) hl4]
      rw [← hcur]
      simp only [List.getElem?_take, List.getElem?_drop]
      rcases Nat.lt_or_ge i xs.length with hi | hi
      · rw [if_pos hi]
        split
        · simp [hi]
        · split
          · rfl
          · rename_i h3 h4
            rw [if_pos (by omega)]
      · rw [if_neg (by omega)]
        rw [if_neg (by omega), if_neg (by omega), if_neg (by omega)]
    · have hf2 : ∀ ys : List IV, (∀ y ∈ ys, y ∈ xs) → flats ys = ys := fun ys h => flats_one fun y hy => hgo y (h y hy)
      rw [hf2 _ (fun y hy => by
        rcases List.mem_append.1 hy with hy | hy
        · rcases List.mem_append.1 hy with hy | hy
          · exact List.mem_of_mem_take hy
          · exact List.mem_of_mem_take hy
        · exact List.mem_of_mem_drop hy)]
      refine (Rel2.append (Rel2.append ?_ ?_) ?_)
      · exact (hrel.sub 0 m)
      · exact (hrel.sub 0 (min len (xs.length - m)))
      · have := hrel.sub (m + min len (xs.length - m)) (xs.length)
        rw [List.take_of_length_le (by rw [List.length_drop]; omega), List.take_of_length_le (by rw [List.length_drop]; omega)] at this
        exact this
/-- copy from the beginning of what is done to the beginning of a row of the call's own. -/
theorem op_copyS {T T' E : TypeId} {s x : Operand} {z : Value} {bytes k n : Nat} {agg : Bool} {xs ys : List IV} (hT : P.underlying T = some (.slice E)) (hE : Ty P E agg z 1 bytes) (ho : o.op = .call { callee := .builtin .copy, args := #[s, x], argTypes := #[T, T'] }) (hs1 : e s = .row k n) (hx : srcOf (e x) = some ys)
    (hk : σ[k]? = some (.row E 1 xs)) (hn : n = xs.length) (hgo : ∀ x ∈ xs, flat x = [x]) (hgy : ∀ x ∈ ys, flat x = [x]) (hgood : Good 1 ys) (hy0 : 0 < ys.length) :
    OpQ P r o e σ (.int .i64 (min ys.length n : Nat)) (σ.set k (.row E 1 (ys.take (min ys.length n) ++ xs.drop (min ys.length n)))) := by
  subst hn
  refine opk_val (by rw [ho]; rfl) fun W0 D ρ w A hs ha => ?_
  have h1 := ha s (by simp [ho, Op.operands, Call.operands]); rw [hs1] at h1
  have h2 := ha x (by simp [ho, Op.operands, Call.operands])
  obtain ⟨v, hρ, hfl, hsz, vs, hro, hrel⟩ := hs.row_at hk
  have hv := h1.row_eq hρ
  obtain ⟨C, c2, news, hxv, hnl, hnrel, hone, hread⟩ := src_inv hs h2 hx hgood (by omega)
  obtain ⟨a, rfl, hrd⟩ := hread hy0
  rw [flats_one hgy] at hnrel
  rw [flats_one hgo] at hrel
  have hinfo : (P.info? E).map (·.size) = some 1 := by obtain ⟨i, hi, _, his, _⟩ := hE.info; rw [hi]; simp [his]
  rw [Nat.mul_one] at hnl
  rcases hro.2 with ⟨h0, B, rfl⟩ | ⟨g, cap, cur, hc, rfl, hg0, hh, hnc, hcm, hcs, htake⟩
  · have hx0 : xs = [] := List.eq_nil_of_length_eq_zero h0
    subst hx0
    have hrun := run_copy_none (P := P) w T T' o.type E B (some a) 0 0 ys.length c2 hT hinfo (by simp)
    have hσ : σ.set k (.row E 1 (ys.take (min ys.length 0) ++ ([] : List IV).drop (min ys.length 0))) = σ := by
      apply List.ext_getElem?
      intro i
      by_cases hi : k = i
      · subst hi; rw [List.getElem?_set_self (List.getElem?_eq_some_iff.1 hk).1, hk]; simp
      · rw [List.getElem?_set_ne hi]
    simp only [List.length_nil]
    exact ⟨D, ρ, .int .i64 0, .int .i64 0, σ, w, exec_copy ho (by rw [hv, hxv]; exact hrun), .refl _ _, hs, .int .i64 0, by simp, hσ.symm⟩
  · have hb0 : hblk (.slice (some ⟨g, 0, none⟩) xs.length cap) = some g := by simp [hblk]; omega
    simp only [Nat.mul_one] at hcs htake
    have hvl : vs.length = xs.length := by have := hro.1; omega
    have hl4 : (news.take (min ys.length xs.length)).length = min ys.length xs.length := by rw [List.length_take]; omega
    have hcl : cur.toList.length = cap := by simpa using hcs
    have hrun := run_copy_row (P := P) w T T' o.type E g 0 xs.length cap a ys.length c2 cur E (news.take (min ys.length xs.length)) hT hinfo hh hl4 (fun j v ej => by
      rw [List.getElem?_take] at ej
      split at ej
      · exact hrd j v ej
      · cases ej) (by rw [hl4]; omega) (fun v hv => hone v (List.mem_of_mem_take hv))
    rw [hl4] at hrun
    simp only [List.take_zero, List.nil_append, Nat.zero_add] at hrun
    refine ⟨D, ρ, .int .i64 (min ys.length xs.length : Nat), .int .i64 (min ys.length xs.length : Nat), _, _, exec_copy ho (by rw [hv, hxv]; exact hrun), .refl _ _, hs.set hρ hb0 (.row E 1 (ys.take (min ys.length xs.length) ++ xs.drop (min ys.length xs.length))) ⟨?_, ?_, by omega, news.take (min ys.length xs.length) ++ vs.drop (min ys.length xs.length), ⟨?_, .inr ⟨g, cap, (news.take (min ys.length xs.length) ++ cur.toList.drop (min ys.length xs.length)).toArray, hc, rfl, hg0, setRow_heap w g cur _ E _ hh, hnc, hcm, ?_, ?_⟩⟩, ?_⟩ rfl rfl rfl (by simp) (fun i hi => setRow_other w g i _ hi), .int _ _, rfl, rfl⟩
    · simp only [List.length_append, List.length_take, List.length_drop]; omega
    · intro y hy
      rcases List.mem_append.1 hy with hy | hy
      · rw [hgy y (List.mem_of_mem_take hy)]; rfl
      · rw [hgo y (List.mem_of_mem_drop hy)]; rfl
    · simp only [List.length_append, List.length_drop, hl4, hvl]; omega
    · simp only [List.size_toArray, List.length_append, List.length_drop, hl4, hcl, Nat.mul_one]; omega
    · rw [Nat.mul_one, List.take_append, hl4, List.take_of_length_le (by rw [hl4]; omega), ← htake, List.drop_take]
    · have hf2 : flats (ys.take (min ys.length xs.length) ++ xs.drop (min ys.length xs.length)) = ys.take (min ys.length xs.length) ++ xs.drop (min ys.length xs.length) := flats_one fun y hy => by
        rcases List.mem_append.1 hy with hy | hy
        · exact hgy y (List.mem_of_mem_take hy)
        · exact hgo y (List.mem_of_mem_drop hy)
      rw [hf2]
      refine Rel2.append (hnrel.sub 0 _) ?_
      have := hrel.sub (min ys.length xs.length) (xs.length)
      rw [List.take_of_length_le (by rw [List.length_drop]; omega), List.take_of_length_le (by rw [List.length_drop]; omega)] at this
      exact this
end
/-- What stands after so many have been copied. -/
def repR (v : IV) (n c : Nat) : List IV := List.replicate c v ++ List.replicate (n - c) (.int .i64 0)
theorem repR_len (v : IV) (n c : Nat) (h : c ≤ n) : (repR v n c).length = n := by simp [repR]; omega
theorem repR_flat (v : IV) (n c : Nat) (h : flat v = [v]) : ∀ x ∈ repR v n c, flat x = [x] := by
  intro x hx
  rcases List.mem_append.1 hx with hx | hx
  · rw [List.eq_of_mem_replicate hx]; exact h
  · rw [List.eq_of_mem_replicate hx]; rfl
theorem repR_one (v : IV) (n c : Nat) (h : v.one = true) : ∀ x ∈ repR v n c, x.one = true := by
  intro x hx
  rcases List.mem_append.1 hx with hx | hx
  · rw [List.eq_of_mem_replicate hx]; exact h
  · rw [List.eq_of_mem_replicate hx]; rfl
theorem repR_first (v : IV) (n : Nat) : [v].take (min [v].length n) ++ (repR v n 0).drop (min [v].length n) = repR v n (min 1 n) := by
  rcases n with _ | n
  · simp [repR]
  · have : min 1 (n + 1) = 1 := by omega
    simp [repR, this, List.replicate_succ]
theorem repR_step (v : IV) (n c q : Nat) (h : c ≤ n) (hq : q ≤ c) (hq2 : q ≤ n - c) : (repR v n c).take c ++ (repR v n c).take q ++ (repR v n c).drop (c + q) = repR v n (c + q) := by
  unfold repR
  rw [List.take_left' (by simp), List.take_append_of_le_length (by simpa using hq), List.take_replicate, List.drop_append, List.drop_replicate, List.drop_replicate, Nat.min_eq_left hq, List.replicate_append_replicate]
  simp only [List.length_replicate]
  rw [show c - (c + q) = 0 by omega, List.replicate_zero, List.nil_append, show n - c - (c + q - c) = n - (c + q) by omega]
section
variable {P : Program} {r : RN} {o : Oper} {e : Val2} {σ : List IObj}
theorem op_rep1 {T T' E : TypeId} {s x : Operand} {z : Value} {bytes k n : Nat} {agg full : Bool} {v : IV} (hT : P.underlying T = some (.slice E)) (hE : Ty P E agg z 1 bytes) (ho : o.op = .call { callee := .builtin .copy, args := #[s, x], argTypes := #[T, T'] }) (hs1 : e s = .row k n) (hx : e x = .sl full [v])
    (hk : σ[k]? = some (.row E 1 (repR v n 0))) (hv : flat v = [v]) (hg : Good 1 [v]) : OpQ P r o e σ (.int .i64 (min 1 n : Nat)) (σ.set k (.row E 1 (repR v n (min 1 n)))) := by
  have := op_copyS (r := r) (ys := [v]) hT hE ho hs1 (by rw [hx]; rfl) hk (repR_len _ _ _ (Nat.zero_le _)).symm (repR_flat _ _ _ hv) (fun x hx => by rw [List.mem_singleton.1 hx]; exact hv) hg Nat.zero_lt_one
  rw [repR_first] at this
  exact this
theorem op_repN {T T' E : TypeId} {s x : Operand} {z : Value} {bytes k n c : Nat} {agg : Bool} {v : IV} (hT : P.underlying T = some (.slice E)) (hE : Ty P E agg z 1 bytes) (ho : o.op = .call { callee := .builtin .copy, args := #[s, x], argTypes := #[T, T'] }) (hs1 : e s = .rsub k n c (n - c)) (hx : e x = .rsub k n 0 c)
    (hk : σ[k]? = some (.row E 1 (repR v n c))) (hc : c < n) (hv : flat v = [v]) (hv1 : v.one = true) : OpQ P r o e σ (.int .i64 (min c (n - c) : Nat)) (σ.set k (.row E 1 (repR v n (c + min c (n - c))))) := by
  have := op_copyR (r := r) hT hE ho hs1 hx hk (repR_len _ _ _ (by omega)).symm hc (by omega) (repR_flat _ _ _ hv) (repR_one _ _ _ hv1)
  rw [repR_step v n c _ (by omega) (by omega) (by omega)] at this
  exact this
end
section
variable {P : Program} {r : RN} {o : Oper} {e : Val2} {σ : List IObj}
theorem exec_bmin {T : Array TypeId} {A : Act} {w : World} {s x : Operand} {k k' : IntKind} {a b : Int} (ho : o.op = .call { callee := .builtin .min, args := #[s, x], argTypes := T }) (h1 : A.eval s = .int k a) (h2 : A.eval x = .int k' b) :
    (execOp A.eval o).run P w = .ok (.value (.int k (if b < a then b else a))) w := by
  simp only [execOp, ho, resolve, invoke, builtin, Sem.run_bind, Sem.run_pure, Result.andThen_ok, List.map_toArray, List.map_cons, List.map_nil, h1, h2, run_min_int2]
theorem exec_bmax {T : Array TypeId} {A : Act} {w : World} {s x : Operand} {k k' : IntKind} {a b : Int} (ho : o.op = .call { callee := .builtin .max, args := #[s, x], argTypes := T }) (h1 : A.eval s = .int k a) (h2 : A.eval x = .int k' b) :
    (execOp A.eval o).run P w = .ok (.value (.int k (if a < b then b else a))) w := by
  simp only [execOp, ho, resolve, invoke, builtin, Sem.run_bind, Sem.run_pure, Result.andThen_ok, List.map_toArray, List.map_cons, List.map_nil, h1, h2, run_max_int2]
theorem op_min {T : Array TypeId} {s x : Operand} {k k' : IntKind} {a b : Int} (ho : o.op = .call { callee := .builtin .min, args := #[s, x], argTypes := T }) (hs : e s = .int k a) (hx : e x = .int k' b) : OpQ P r o e σ (.int k (if b < a then b else a)) σ := by
  refine opq_pure (by rw [ho]; rfl) fun W0 D ρ w A hst ha => ?_
  have h1 := ha s (by simp [ho, Op.operands, Call.operands]); rw [hs] at h1
  have h2 := ha x (by simp [ho, Op.operands, Call.operands]); rw [hx] at h2
  exact ⟨_, exec_bmin ho h1.int_inv h2.int_inv, .int _ _⟩
theorem op_max {T : Array TypeId} {s x : Operand} {k k' : IntKind} {a b : Int} (ho : o.op = .call { callee := .builtin .max, args := #[s, x], argTypes := T }) (hs : e s = .int k a) (hx : e x = .int k' b) : OpQ P r o e σ (.int k (if a < b then b else a)) σ := by
  refine opq_pure (by rw [ho]; rfl) fun W0 D ρ w A hst ha => ?_
  have h1 := ha s (by simp [ho, Op.operands, Call.operands]); rw [hs] at h1
  have h2 := ha x (by simp [ho, Op.operands, Call.operands]); rw [hx] at h2
  exact ⟨_, exec_bmax ho h1.int_inv h2.int_inv, .int _ _⟩
end
section
variable {P : Program} {r : RN} {Q : IPost} {a a' : IA} {σ σ' : List IObj} {ops : Array Oper} {o : Oper} {rest l : List Oper}
/-- A call that answers a row of its own. -/
theorem x_crow {f : FuncId} {g : Operand} {args : Array Operand} {tys : Array TypeId} {fs cs asx asx' : List IV} {E sz : Nat} {xs : List IV} (hc : ICalls P f asx [] (fun u σ' => ∃ k, u = .row k xs.length ∧ σ'[k]? = some (.row E sz xs))) (hxs : ∀ x ∈ xs, Dat x) (k : IL P r ops Q rest a' σ') [hF : FunC P f] (hg : o.guard = none := by rfl) (ho : o.op = .call { callee := .value g, args := args, argTypes := tys } := by rfl)
    (he : ev a g = .fn (.func f) fs cs := by rfl) (has : fs ++ args.toList.map (ev a) ++ cs = asx' := by exact x_nf) (hw : Wks asx' asx := by exact x_wks) (hd : ∀ x ∈ asx, Dat x := by exact x_dats) (ha : a.put o.dst (.row σ.length xs.length) = a' := by exact x_nf) (hs : σ ++ [.row E sz xs] = σ' := by exact x_nf) : IL P r ops Q (o :: rest) a σ := by
  subst hs
  exact il_call hg ho he has ((hc.frameRow hd hxs σ).wks hw) fun v σ' ⟨h1, h2⟩ => by subst h1; subst h2; rw [ha]; exact k
end
end Go.QL
end

section
/- QL, part 1: what the library's functions on texts come to. No program in sight. -/
set_option linter.unusedVariables false
set_option linter.unusedSimpArgs false
namespace Go.QL
open Go Go.RowKit

/-- All characters of a text from a place on. -/
def strAll (p : Int → Bool) (s : ByteArray) : Nat → Nat → Bool
  | 0, _ => true
  | n + 1, i => if i < s.size then p ((Utf8.decode s i).1 : Int) && strAll p s n (i + (Utf8.decode s i).2) else true
theorem strAll_fuel (p : Int → Bool) (s : ByteArray) : ∀ (n m i : Nat), s.size ≤ i + n → s.size ≤ i + m → strAll p s n i = strAll p s m i
  | 0, 0, i, _, _ => rfl
  | 0, m + 1, i, h, _ => by rw [strAll, strAll, if_neg (by omega)]
  | n + 1, 0, i, _, h => by rw [strAll, strAll, if_neg (by omega)]
  | n + 1, m + 1, i, h1, h2 => by
    rw [strAll, strAll]
    by_cases hi : i < s.size
    · have := Lib.decode_width_pos s i hi
      rw [if_pos hi, if_pos hi, strAll_fuel p s n m _ (by omega) (by omega)]
    · rw [if_neg hi, if_neg hi]
theorem strAll_step (p : Int → Bool) (s : ByteArray) (i : Nat) (hi : i < s.size) : strAll p s (s.size - i) i = (p ((Utf8.decode s i).1 : Int) && strAll p s (s.size - (i + (Utf8.decode s i).2)) (i + (Utf8.decode s i).2)) := by
  have hw := Lib.decode_width_pos s i hi
  obtain ⟨n, hn⟩ : ∃ n, s.size - i = n + 1 := ⟨s.size - i - 1, by omega⟩
  rw [hn, strAll, if_pos hi, strAll_fuel p s n (s.size - (i + (Utf8.decode s i).2)) _ (by omega) (by omega)]
theorem strAll_end (p : Int → Bool) (s : ByteArray) (i : Nat) (hi : ¬ i < s.size) (n : Nat) : strAll p s n i = true := by
  cases n with
  | zero => rfl
  | succ n => rw [strAll, if_neg hi]
/-- P3.1: values. -/
def valueV (s : Str) : Bool := strAll charMay s s.size 0 && (decide ((s.size : Int) ≤ 200) && Lib.validD s.data.toList)
def lowR (c : Int) : Int := if 65 ≤ c ∧ c ≤ 90 then c + 32 else c
def scriptV (s : Str) : Bool := decide ((⟨(Lib.mapD lowR (Lib.cut s.data.toList [58]).1).toArray⟩ : ByteArray) = ⟨#[106, 97, 118, 97, 115, 99, 114, 105, 112, 116]⟩)
/-- P3.1: targets. -/
def targetV (s : Str) : Bool := valueV s && ((!decide (s = ⟨#[]⟩)) && ((!decide (sbyte s 0 = 32)) && ((!decide (sbyte s (s.size - 1) = 32)) && !scriptV s)))
end Go.QL
end

section
/- The contracts of attrs.Value, attrs.Target. -/
set_option linter.unusedVariables false
set_option linter.unusedSimpArgs false
set_option maxHeartbeats 4000000
namespace Go.Proofs.YtokbhcnomffopaaDoor
open Go Go.QL

theorem value_calls (s : Str) (hV : ICalls Tryd.prog 94 [.str s] [] (fun u _ => u = .bool (Lib.validD s.data.toList))) : ICalls Tryd.prog 82 [.str s] [] (fun u _ => u = .bool (valueV s)) := by
  refine x_enter Tryd.func82 Tryd.ntmps82 ?_
  refine ic_seq ?_
  refine ic_region ?_
  refine x_op ?_
  refine il_nil ?_
  refine ic_seq ?_
  refine ic_seq ?_
  refine ic_region ?_
  refine x_op ?_
  refine x_op ?_
  refine il_nil ?_
  refine ic_block ?_ -- 0
  refine x_loop [] [2, 4, 7, 8, 9, 10, 11, 12] (fun m vs σ => ∃ i : Nat, strAll charMay s (s.size - i) i = strAll charMay s s.size 0 ∧ m = s.size - i ∧ vs = [] ∧ σ = [.obj (.stringIter s i)]) ⟨0, rfl, rfl, rfl, rfl⟩ ?_
  rintro m vs σ ⟨i, hi, rfl, rfl, rfl⟩
  simp only [sets, nf]
  refine ic_seq ?_
  refine ic_region ?_
  by_cases his : i < s.size
  · have hw := Lib.decode_width_pos s i his
    rw [strAll_step charMay s i his] at hi
    refine x_op ?_
    simp only [nextStr, nextPos, if_pos his]
    refine x_op ?_
    refine il_nil ?_
    refine ic_seq ?_
    refine ic_cond rfl (fun hc => ?_) (fun hc => ?_) -- t8
    · -- true
      refine ic_skip ?_
      refine ic_block ?_ -- 1
      refine ic_seq ?_
      refine ic_region ?_
      refine x_op ?_
      refine x_op ?_
      refine il_nil ?_
      refine ic_seq ?_
      refine ic_region ?_
      refine x_op ?_
      refine x_cv (charMay_calls ((Utf8.decode s i).1 : Int)) ?_
      refine x_op ?_
      refine il_nil ?_
      refine ic_cond rfl (fun hc => ?_) (fun hc => ?_) -- t12
      · -- true
        have hf : charMay ((Utf8.decode s i).1 : Int) = false := by simpa using hc
        rw [hf, Bool.false_and] at hi
        refine ic_seq ?_
        refine ic_region ?_
        refine x_op ?_
        refine il_nil ?_
        refine ic_ret ?_
        repeat (first | with_reducible refine it_ret ?_ | with_reducible refine ib_ret ?_)
        exact x_res1 Tryd.results82 (by rw [valueV, ← hi])
      · -- false
        have hf : charMay ((Utf8.decode s i).1 : Int) = true := by simpa using hc
        rw [hf, Bool.true_and] at hi
        refine ic_skip ?_
        exact x_next (s.size - (i + (Utf8.decode s i).2)) ⟨i + (Utf8.decode s i).2, hi, rfl, rfl, rfl⟩ (by omega) -- round
    · cases hc
  · rw [strAll_end charMay s i his] at hi
    refine x_op ?_
    simp only [nextStr, nextPos, if_neg his]
    refine x_op ?_
    refine il_nil ?_
    refine ic_seq ?_
    refine ic_cond rfl (fun hc => ?_) (fun hc => ?_) -- t8
    · cases hc
    · -- false
      refine ic_exit ?_ -- 0
      refine ic_seq ?_
      refine ic_region ?_
      refine x_op ?_
      refine x_op ?_
      refine x_op ?_
      refine x_op ?_
      rcases Bool.eq_false_or_eq_true (decide ((s.size : Int) ≤ 200)) with h | h
      · simp only [h]
        first | refine n_op ?_ | refine y_op ?_
        refine y_cv (hV) ?_
        refine x_op ?_
        refine x_op ?_
        refine il_nil ?_
        refine ic_ret ?_
        repeat (first | with_reducible refine it_ret ?_ | with_reducible refine ib_ret ?_)
        exact x_res1 Tryd.results82 (by rw [valueV, ← hi, h])
      · simp only [h]
        first | refine n_op ?_ | refine y_op ?_
        first | refine n_op ?_ | refine y_op ?_
        refine x_op ?_
        refine x_op ?_
        refine il_nil ?_
        refine ic_ret ?_
        repeat (first | with_reducible refine it_ret ?_ | with_reducible refine ib_ret ?_)
        exact x_res1 Tryd.results82 (by rw [valueV, ← hi, h])
theorem target1_calls (c : Int) (h0 : 0 ≤ c) (h1 : c ≤ 1114111) : ICalls Tryd.prog 81 [.int .i32 c] [] (fun u _ => u = .int .i32 (lowR c)) := by
  refine x_enter Tryd.func81 Tryd.ntmps81 ?_
  refine ic_seq ?_
  refine ic_region ?_
  refine x_op ?_
  refine il_nil ?_
  refine ic_seq ?_
  refine ic_seq ?_
  refine ic_region ?_
  refine x_op ?_
  refine x_op ?_
  refine x_op ?_
  rcases Bool.eq_false_or_eq_true (decide (65 ≤ c)) with h | h
  · simp only [h]
    first | refine n_op ?_ | refine y_op ?_
    first | refine n_op ?_ | refine y_op ?_
    refine x_op ?_
    refine il_nil ?_
    refine ic_cond rfl (fun hc => ?_) (fun hc => ?_) -- t8
    · -- true
      have hl : lowR c = IntKind.i32.wrap (c + 32) := by
        have h2 := of_decide_eq_true h
        have h3 := of_decide_eq_true hc
        unfold lowR
        rw [if_pos ⟨h2, h3⟩, IntKind.wrap_i32]
        omega
      refine ic_seq ?_
      refine ic_region ?_
      refine x_op ?_
      refine x_op ?_
      refine x_op ?_
      refine il_nil ?_
      refine ic_ret ?_
      repeat (first | with_reducible refine it_ret ?_ | with_reducible refine ib_ret ?_)
      exact x_res1 Tryd.results81 (by rw [hl])
    · -- false
      have hl : lowR c = c := by
        have h3 := of_decide_eq_false hc
        unfold lowR
        rw [if_neg (by omega)]
      refine ic_skip ?_
      refine ic_seq ?_
      refine ic_region ?_
      refine x_op ?_
      refine x_op ?_
      refine il_nil ?_
      refine ic_ret ?_
      repeat (first | with_reducible refine it_ret ?_ | with_reducible refine ib_ret ?_)
      exact x_res1 Tryd.results81 (by rw [hl])
  · simp only [h]
    first | refine n_op ?_ | refine y_op ?_
    first | refine n_op ?_ | refine y_op ?_
    refine x_op ?_
    refine il_nil ?_
    refine ic_cond rfl (fun hc => ?_) (fun hc => ?_) -- t8
    · cases hc
    · -- false
      have hl : lowR c = c := by
        have h3 := of_decide_eq_false h
        unfold lowR
        rw [if_neg (by omega)]
      refine ic_skip ?_
      refine ic_seq ?_
      refine ic_region ?_
      refine x_op ?_
      refine x_op ?_
      refine il_nil ?_
      refine ic_ret ?_
      repeat (first | with_reducible refine it_ret ?_ | with_reducible refine ib_ret ?_)
      exact x_res1 Tryd.results81 (by rw [hl])
theorem target_calls (s : Str) (hsz : s.size ≤ 70368744177664) (hV : ICalls Tryd.prog 94 [.str s] [] (fun u _ => u = .bool (Lib.validD s.data.toList)))
    (hC : ICalls Tryd.prog 79 [.str s, .str ⟨#[58]⟩] [] (fun u _ => u = .tup [.str ⟨(Lib.cut s.data.toList [58]).1.toArray⟩, .str ⟨(Lib.cut s.data.toList [58]).2.1.toArray⟩, .bool (Lib.cut s.data.toList [58]).2.2]))
    (hM : ∀ l : List UInt8, l.length ≤ s.size → ICalls Tryd.prog 80 [.fn (.func 81) [] [], .str ⟨l.toArray⟩] [] (fun u _ => u = .str ⟨(Lib.mapD lowR l).toArray⟩)) : ICalls Tryd.prog 76 [.str s] [] (fun u _ => u = .bool (targetV s)) := by
  have hcl : (Lib.cut s.data.toList [58]).1.length ≤ s.size := by
    unfold Lib.cut
    split
    · simp; omega
    · simp
  refine x_enter Tryd.func76 Tryd.ntmps76 ?_
  refine ic_seq ?_
  refine ic_region ?_
  refine x_op ?_
  refine il_nil ?_
  refine ic_seq ?_
  refine ic_region ?_
  refine x_op ?_
  refine x_cv (hC) ?_
  refine x_op ?_
  refine x_op ?_
  refine x_op ?_
  refine x_op ?_
  refine x_op ?_
  refine x_op ?_
  refine x_op ?_
  refine il_nil ?_
  refine ic_seq ?_
  refine ic_region ?_
  refine x_op ?_
  refine x_cv (hM _ hcl) ?_
  refine x_op ?_
  refine x_op ?_
  refine il_nil ?_
  refine ic_seq ?_
  refine ic_region ?_
  refine x_op ?_
  refine x_cv (value_calls s hV) ?_
  refine x_op ?_
  by_cases hs : s = ⟨#[]⟩
  · have hd : (!decide (s = (⟨#[]⟩ : ByteArray))) = false := by simp [hs]
    rcases Bool.eq_false_or_eq_true (valueV s) with h | h
    · simp only [h]
      first | refine n_op ?_ | refine y_op ?_
      first | refine n_op ?_ | refine y_op ?_
      refine x_op ?_
      refine x_op ?_
      simp only [hd]
      first | refine n_op ?_ | refine y_op ?_
      first | refine n_op ?_ | refine y_op ?_
      first | refine n_op ?_ | refine y_op ?_
      refine x_op ?_
      refine x_op ?_
      first | refine n_op ?_ | refine y_op ?_
      first | refine n_op ?_ | refine y_op ?_
      first | refine n_op ?_ | refine y_op ?_
      first | refine n_op ?_ | refine y_op ?_
      first | refine n_op ?_ | refine y_op ?_
      first | refine n_op ?_ | refine y_op ?_
      refine x_op ?_
      refine x_op ?_
      first | refine n_op ?_ | refine y_op ?_
      first | refine n_op ?_ | refine y_op ?_
      refine x_op ?_
      refine x_op ?_
      refine il_nil ?_
      have ht : targetV s = false := by simp [targetV, hd]
      rw [ht]
      refine ic_ret ?_
      repeat (first | with_reducible refine it_ret ?_ | with_reducible refine ib_ret ?_)
      exact x_res1 Tryd.results76 rfl
    · simp only [h]
      first | refine n_op ?_ | refine y_op ?_
      first | refine n_op ?_ | refine y_op ?_
      refine x_op ?_
      refine x_op ?_
      first | refine n_op ?_ | refine y_op ?_
      first | refine n_op ?_ | refine y_op ?_
      first | refine n_op ?_ | refine y_op ?_
      refine x_op ?_
      refine x_op ?_
      first | refine n_op ?_ | refine y_op ?_
      first | refine n_op ?_ | refine y_op ?_
      first | refine n_op ?_ | refine y_op ?_
      first | refine n_op ?_ | refine y_op ?_
      first | refine n_op ?_ | refine y_op ?_
      first | refine n_op ?_ | refine y_op ?_
      refine x_op ?_
      refine x_op ?_
      first | refine n_op ?_ | refine y_op ?_
      first | refine n_op ?_ | refine y_op ?_
      refine x_op ?_
      refine x_op ?_
      refine il_nil ?_
      have ht : targetV s = false := by simp [targetV, h]
      rw [ht]
      refine ic_ret ?_
      repeat (first | with_reducible refine it_ret ?_ | with_reducible refine ib_ret ?_)
      exact x_res1 Tryd.results76 rfl
  · have hd : (!decide (s = (⟨#[]⟩ : ByteArray))) = true := by simp [hs]
    have hpos : 0 < s.size := by
      rcases Nat.eq_zero_or_pos s.size with h | h
      · exact absurd (ByteArray.ext (Array.eq_empty_of_size_eq_zero h)) hs
      · exact h
    rcases Bool.eq_false_or_eq_true (valueV s) with h | h
    · simp only [h]
      first | refine n_op ?_ | refine y_op ?_
      first | refine n_op ?_ | refine y_op ?_
      refine x_op ?_
      refine x_op ?_
      simp only [hd]
      first | refine n_op ?_ | refine y_op ?_
      first | refine n_op ?_ | refine y_op ?_
      first | refine n_op ?_ | refine y_op ?_
      refine x_op ?_
      refine x_op ?_
      rcases Bool.eq_false_or_eq_true (!decide (sbyte s 0 = 32)) with h1 | h1
      · simp only [Int.toNat_zero, h1]
        first | refine n_op ?_ | refine y_op ?_
        first | refine n_op ?_ | refine y_op ?_
        first | refine n_op ?_ | refine y_op ?_
        first | refine n_op ?_ | refine y_op ?_
        first | refine n_op ?_ | refine y_op ?_
        first | refine n_op ?_ | refine y_op ?_
        refine x_op ?_
        refine x_op ?_
        rcases Bool.eq_false_or_eq_true (!decide (sbyte s (s.size - 1) = 32)) with h2 | h2
        · have e : ((s.size : Int) - 1).toNat = s.size - 1 := by omega
          simp only [e, h2]
          first | refine n_op ?_ | refine y_op ?_
          first | refine n_op ?_ | refine y_op ?_
          refine x_op ?_
          refine x_op ?_
          refine il_nil ?_
          have ht : targetV s = (!scriptV s) := by simp [targetV, hd, h, h1, h2]
          rw [ht]
          refine ic_ret ?_
          repeat (first | with_reducible refine it_ret ?_ | with_reducible refine ib_ret ?_)
          exact x_res1 Tryd.results76 rfl
        · have e : ((s.size : Int) - 1).toNat = s.size - 1 := by omega
          simp only [e, h2]
          first | refine n_op ?_ | refine y_op ?_
          first | refine n_op ?_ | refine y_op ?_
          refine x_op ?_
          refine x_op ?_
          refine il_nil ?_
          have ht : targetV s = false := by simp [targetV, h2]
          rw [ht]
          refine ic_ret ?_
          repeat (first | with_reducible refine it_ret ?_ | with_reducible refine ib_ret ?_)
          exact x_res1 Tryd.results76 rfl
      · simp only [Int.toNat_zero, h1]
        first | refine n_op ?_ | refine y_op ?_
        first | refine n_op ?_ | refine y_op ?_
        first | refine n_op ?_ | refine y_op ?_
        first | refine n_op ?_ | refine y_op ?_
        first | refine n_op ?_ | refine y_op ?_
        first | refine n_op ?_ | refine y_op ?_
        refine x_op ?_
        refine x_op ?_
        first | refine n_op ?_ | refine y_op ?_
        first | refine n_op ?_ | refine y_op ?_
        refine x_op ?_
        refine x_op ?_
        refine il_nil ?_
        have ht : targetV s = false := by simp [targetV, h1]
        rw [ht]
        refine ic_ret ?_
        repeat (first | with_reducible refine it_ret ?_ | with_reducible refine ib_ret ?_)
        exact x_res1 Tryd.results76 rfl
    · simp only [h]
      first | refine n_op ?_ | refine y_op ?_
      first | refine n_op ?_ | refine y_op ?_
      refine x_op ?_
      refine x_op ?_
      first | refine n_op ?_ | refine y_op ?_
      first | refine n_op ?_ | refine y_op ?_
      first | refine n_op ?_ | refine y_op ?_
      refine x_op ?_
      refine x_op ?_
      first | refine n_op ?_ | refine y_op ?_
      first | refine n_op ?_ | refine y_op ?_
      first | refine n_op ?_ | refine y_op ?_
      first | refine n_op ?_ | refine y_op ?_
      first | refine n_op ?_ | refine y_op ?_
      first | refine n_op ?_ | refine y_op ?_
      refine x_op ?_
      refine x_op ?_
      first | refine n_op ?_ | refine y_op ?_
      first | refine n_op ?_ | refine y_op ?_
      refine x_op ?_
      refine x_op ?_
      refine il_nil ?_
      have ht : targetV s = false := by simp [targetV, h]
      rw [ht]
      refine ic_ret ?_
      repeat (first | with_reducible refine it_ret ?_ | with_reducible refine ib_ret ?_)
      exact x_res1 Tryd.results76 rfl
end Go.Proofs.YtokbhcnomffopaaDoor
end

section
/-
  DERIVED: THE SHELF's CONTRACTS AT THIS DUMP, IN PLAIN WORDS (tools/lay-plain.mjs out of 'YtokbhcnomffopaaDoorShT.lean', which tools/lay-shelf.mjs wrote): THE SAME DECLARATIONS UNDER THE SAME NAMES: 'import', 'namespace', 'open', 'def', 'theorem' AND NOTHING ELSE: no command of the shelf's: FOR A HAND-IN. Each laying: the table of numbers ('.._ren') and one theorem, a field a fact of the dump's own or the kernel's comparison; each contract: ONE APPLICATION.
-/
namespace Go.Proofs
open Go.Shelf
def Tryd.lays145_ren : Go.Shelf.Ren := ⟨fun | 145 => 79 | 220 => 85 | 219 => 95 | 217 => 101 | 225 => 102 | 224 => 103 | 267 => 104 | 266 => 108 | 314 => 109 | n => n, fun | 9 => 9 | 4 => 4 | 59 => 122 | 3 => 3 | 5 => 5 | 46 => 82 | 146 => 127 | 51 => 126 | n => n, fun | 1 => 2 | n => n⟩
theorem Tryd.lays145 : Go.Proofs.Lays.n145 Tryd.prog Tryd.lays145_ren := {
  mixed := by kernel_rfl
  f145 := Tryd.func79.trans (congrArg some (by kernel_rfl))
  f217 := Tryd.func101.trans (congrArg some (by kernel_rfl))
  f219 := Tryd.func95.trans (congrArg some (by kernel_rfl))
  f220 := Tryd.func85.trans (congrArg some (by kernel_rfl))
  f224 := Tryd.func103.trans (congrArg some (by kernel_rfl))
  f225 := Tryd.func102.trans (congrArg some (by kernel_rfl))
  f266 := Tryd.func108.trans (congrArg some (by kernel_rfl))
  f267 := Tryd.func104.trans (congrArg some (by kernel_rfl))
  f314 := Tryd.func109.trans (congrArg some (by kernel_rfl))
  t3 := Tryd.underlying3
  a3 := Tryd.isAgg3
  z3 := Tryd.sizeOf3
  v3 := Tryd.zeroValue3
  t4 := Tryd.underlying4
  a4 := Tryd.isAgg4
  z4 := Tryd.sizeOf4
  v4 := Tryd.zeroValue4
  t5 := Tryd.underlying5
  a5 := Tryd.isAgg5
  z5 := Tryd.sizeOf5
  v5 := Tryd.zeroValue5
  t9 := Tryd.underlying9
  a9 := Tryd.isAgg9
  z9 := Tryd.sizeOf9
  v9 := Tryd.zeroValue9
  t46 := Tryd.underlying82
  a46 := Tryd.isAgg82
  z46 := Tryd.sizeOf82
  v46 := Tryd.zeroValue82
  t51 := Tryd.underlying126
  a51 := Tryd.isAgg126
  z51 := Tryd.sizeOf126
  v51 := Tryd.zeroValue126
  t59 := Tryd.underlying122
  a59 := Tryd.isAgg122
  z59 := Tryd.sizeOf122
  v59 := Tryd.zeroValue122
  t146 := Tryd.underlying127
  a146 := Tryd.isAgg127
  z146 := Tryd.sizeOf127
  v146 := Tryd.zeroValue127
  g1 := by kernel_rfl }
def Tryd.lays195_ren : Go.Shelf.Ren := ⟨fun | 195 => 65 | n => n, fun | 9 => 9 | 3 => 3 | 0 => 0 | 4 => 4 | n => n, fun | n => n⟩
theorem Tryd.lays195 : Go.Proofs.Lays.n195 Tryd.prog Tryd.lays195_ren := {
  mixed := by kernel_rfl
  f195 := Tryd.func65.trans (congrArg some (by kernel_rfl))
  t0 := Tryd.underlying0
  a0 := Tryd.isAgg0
  z0 := Tryd.sizeOf0
  v0 := Tryd.zeroValue0
  t3 := Tryd.underlying3
  a3 := Tryd.isAgg3
  z3 := Tryd.sizeOf3
  v3 := Tryd.zeroValue3
  t4 := Tryd.underlying4
  a4 := Tryd.isAgg4
  z4 := Tryd.sizeOf4
  v4 := Tryd.zeroValue4
  t9 := Tryd.underlying9
  a9 := Tryd.isAgg9
  z9 := Tryd.sizeOf9
  v9 := Tryd.zeroValue9 }
def Tryd.lays196_ren : Go.Shelf.Ren := ⟨fun | 196 => 94 | 259 => 100 | n => n, fun | 9 => 9 | 4 => 4 | 3 => 3 | 5 => 5 | 12 => 12 | 119 => 151 | 0 => 0 | 46 => 82 | 139 => 154 | 138 => 153 | 53 => 129 | n => n, fun | 3 => 0 | 4 => 1 | n => n⟩
theorem Tryd.lays196 : Go.Proofs.Lays.n196 Tryd.prog Tryd.lays196_ren := {
  mixed := by kernel_rfl
  f196 := Tryd.func94.trans (congrArg some (by kernel_rfl))
  f259 := Tryd.func100.trans (congrArg some (by kernel_rfl))
  t0 := Tryd.underlying0
  a0 := Tryd.isAgg0
  z0 := Tryd.sizeOf0
  v0 := Tryd.zeroValue0
  t3 := Tryd.underlying3
  a3 := Tryd.isAgg3
  z3 := Tryd.sizeOf3
  v3 := Tryd.zeroValue3
  t4 := Tryd.underlying4
  a4 := Tryd.isAgg4
  z4 := Tryd.sizeOf4
  v4 := Tryd.zeroValue4
  t5 := Tryd.underlying5
  a5 := Tryd.isAgg5
  z5 := Tryd.sizeOf5
  v5 := Tryd.zeroValue5
  t9 := Tryd.underlying9
  a9 := Tryd.isAgg9
  z9 := Tryd.sizeOf9
  v9 := Tryd.zeroValue9
  t12 := Tryd.underlying12
  a12 := Tryd.isAgg12
  z12 := Tryd.sizeOf12
  v12 := Tryd.zeroValue12
  t46 := Tryd.underlying82
  a46 := Tryd.isAgg82
  z46 := Tryd.sizeOf82
  v46 := Tryd.zeroValue82
  t53 := Tryd.underlying129
  a53 := Tryd.isAgg129
  z53 := Tryd.sizeOf129
  v53 := Tryd.zeroValue129
  t119 := Tryd.underlying151
  a119 := Tryd.isAgg151
  z119 := Tryd.sizeOf151
  t138 := Tryd.underlying153
  a138 := Tryd.isAgg153
  z138 := Tryd.sizeOf153
  v138 := Tryd.zeroValue153
  t139 := Tryd.underlying154
  a139 := Tryd.isAgg154
  z139 := Tryd.sizeOf154
  v139 := Tryd.zeroValue154
  g3 := by kernel_rfl
  g4 := by kernel_rfl }
def Tryd.lays230_ren : Go.Shelf.Ren := ⟨fun | 230 => 80 | 197 => 86 | 118 => 87 | 165 => 88 | 166 => 89 | 168 => 90 | 270 => 91 | 167 => 92 | 169 => 93 | 260 => 96 | 240 => 97 | 241 => 98 | 242 => 99 | 276 => 105 | 277 => 106 | 278 => 107 | n => n, fun | 107 => 125 | 9 => 9 | 72 => 135 | 0 => 0 | 4 => 4 | 3 => 3 | 21 => 21 | 105 => 136 | 76 => 141 | 5 => 5 | 75 => 140 | 70 => 132 | 20 => 20 | 37 => 133 | 127 => 149 | 119 => 151 | 46 => 82 | 139 => 154 | 138 => 153 | 164 => 156 | 51 => 126 | 80 => 146 | n => n, fun | 3 => 0 | 4 => 1 | n => n⟩
theorem Tryd.lays230 : Go.Proofs.Lays.n230 Tryd.prog Tryd.lays230_ren := {
  mixed := by kernel_rfl
  f118 := Tryd.func87.trans (congrArg some (by kernel_rfl))
  f165 := Tryd.func88.trans (congrArg some (by kernel_rfl))
  f166 := Tryd.func89.trans (congrArg some (by kernel_rfl))
  f167 := Tryd.func92.trans (congrArg some (by kernel_rfl))
  f168 := Tryd.func90.trans (congrArg some (by kernel_rfl))
  f169 := Tryd.func93.trans (congrArg some (by kernel_rfl))
  f197 := Tryd.func86.trans (congrArg some (by kernel_rfl))
  f230 := Tryd.func80.trans (congrArg some (by kernel_rfl))
  f240 := Tryd.func97.trans (congrArg some (by kernel_rfl))
  f241 := Tryd.func98.trans (congrArg some (by kernel_rfl))
  f242 := Tryd.func99.trans (congrArg some (by kernel_rfl))
  f260 := Tryd.func96.trans (congrArg some (by kernel_rfl))
  f270 := Tryd.func91.trans (congrArg some (by kernel_rfl))
  f276 := Tryd.func105.trans (congrArg some (by kernel_rfl))
  f277 := Tryd.func106.trans (congrArg some (by kernel_rfl))
  f278 := Tryd.func107.trans (congrArg some (by kernel_rfl))
  t0 := Tryd.underlying0
  a0 := Tryd.isAgg0
  z0 := Tryd.sizeOf0
  v0 := Tryd.zeroValue0
  t3 := Tryd.underlying3
  a3 := Tryd.isAgg3
  z3 := Tryd.sizeOf3
  v3 := Tryd.zeroValue3
  t4 := Tryd.underlying4
  a4 := Tryd.isAgg4
  z4 := Tryd.sizeOf4
  v4 := Tryd.zeroValue4
  t5 := Tryd.underlying5
  a5 := Tryd.isAgg5
  z5 := Tryd.sizeOf5
  v5 := Tryd.zeroValue5
  t9 := Tryd.underlying9
  a9 := Tryd.isAgg9
  z9 := Tryd.sizeOf9
  v9 := Tryd.zeroValue9
  t20 := Tryd.underlying20
  a20 := Tryd.isAgg20
  z20 := Tryd.sizeOf20
  v20 := Tryd.zeroValue20
  t21 := Tryd.underlying21
  a21 := Tryd.isAgg21
  z21 := Tryd.sizeOf21
  v21 := Tryd.zeroValue21
  t37 := Tryd.underlying133
  a37 := Tryd.isAgg133
  z37 := Tryd.sizeOf133
  v37 := Tryd.zeroValue133
  t46 := Tryd.underlying82
  a46 := Tryd.isAgg82
  z46 := Tryd.sizeOf82
  v46 := Tryd.zeroValue82
  t51 := Tryd.underlying126
  a51 := Tryd.isAgg126
  z51 := Tryd.sizeOf126
  v51 := Tryd.zeroValue126
  t70 := Tryd.underlying132
  a70 := Tryd.isAgg132
  z70 := Tryd.sizeOf132
  v70 := Tryd.zeroValue132
  t72 := Tryd.underlying135
  a72 := Tryd.isAgg135
  z72 := Tryd.sizeOf135
  v72 := Tryd.zeroValue135
  t75 := Tryd.underlying140
  a75 := Tryd.isAgg140
  z75 := Tryd.sizeOf140
  v75 := Tryd.zeroValue140
  t76 := Tryd.underlying141
  a76 := Tryd.isAgg141
  z76 := Tryd.sizeOf141
  v76 := Tryd.zeroValue141
  t105 := Tryd.underlying136
  a105 := Tryd.isAgg136
  z105 := Tryd.sizeOf136
  v105 := Tryd.zeroValue136
  t107 := Tryd.underlying125
  a107 := Tryd.isAgg125
  z107 := Tryd.sizeOf125
  v107 := Tryd.zeroValue125
  t119 := Tryd.underlying151
  a119 := Tryd.isAgg151
  z119 := Tryd.sizeOf151
  t127 := Tryd.underlying149
  a127 := Tryd.isAgg149
  z127 := Tryd.sizeOf149
  v127 := Tryd.zeroValue149
  t138 := Tryd.underlying153
  a138 := Tryd.isAgg153
  z138 := Tryd.sizeOf153
  v138 := Tryd.zeroValue153
  t139 := Tryd.underlying154
  a139 := Tryd.isAgg154
  z139 := Tryd.sizeOf154
  v139 := Tryd.zeroValue154
  t164 := Tryd.underlying156
  a164 := Tryd.isAgg156
  z164 := Tryd.sizeOf156
  v164 := Tryd.zeroValue156
  g3 := by kernel_rfl
  g4 := by kernel_rfl }
theorem Tryd.Builder_Extra : Builder.Extra Tryd.prog Tryd.lays230_ren := {
  sizeBuilder := by kernel_rfl
  liesBuilder := by kernel_rfl
  t5 := Tryd.lays230.t5
  a5 := Tryd.lays230.a5
  z5 := Tryd.lays230.z5
  v5 := Tryd.lays230.v5
  infoByte := by kernel_rfl
  cellsByte := by kernel_rfl
  sizeByte := by kernel_rfl
  neB5 := by decide }
end Go.Proofs
end

section
/- The library's contracts, and what leans on them: attrs.Target, chars.Count. -/
set_option linter.unusedVariables false
set_option linter.unusedSimpArgs false
set_option maxHeartbeats 4000000
namespace Go.Proofs.YtokbhcnomffopaaDoor
open Go Go.QL Go.RowKit

theorem rel_str {D : DM} {ρ : List Slot} {s : ByteArray} {vs : List Value} (h : Rel2 D ρ [.str s] vs) : vs = [.string s] := by
  obtain ⟨v, vs', rfl, h1, h2⟩ := h.head
  have h3 : vs' = [] := List.eq_nil_of_length_eq_zero h2.1.symm
  rw [h1.str_inv, h3]
theorem rel_str2 {D : DM} {ρ : List Slot} {s t : ByteArray} {vs : List Value} (h : Rel2 D ρ [.str s, .str t] vs) : vs = [.string s, .string t] := by
  obtain ⟨v, vs', rfl, h1, h2⟩ := h.head
  rw [h1.str_inv, rel_str h2]
theorem rel_fnstr {D : DM} {ρ : List Slot} {g : Fn} {t : ByteArray} {vs : List Value} (h : Rel2 D ρ [.fn g [] [], .str t] vs) : vs = [.func g #[] #[], .string t] := by
  obtain ⟨v, vs', rfl, h1, h2⟩ := h.head
  cases h1 with
  | fn _ _ _ vs us hl hl2 hv hv2 =>
    have e1 : vs = #[] := Array.eq_empty_of_size_eq_zero (by simpa using hl.symm)
    have e2 : us = #[] := Array.eq_empty_of_size_eq_zero (by simpa using hl2.symm)
    rw [e1, e2, rel_str h2]
theorem below_iter (w : World) (s : ByteArray) (pos : Nat) : Below w.heap.size w (w.iter s pos) := (Below.refl _ w).alloc (Nat.le_refl _) _
theorem valid_calls (s : ByteArray) (hs : s.size ≤ 9223372036854775807) : ICalls Tryd.prog 94 [.str s] [] (fun u _ => u = .bool (Lib.validD s.data.toList)) :=
  icalls_shelf (vs0 := #[.string s]) (fun D ρ vs h => rel_str h) (fun D ρ => .bool _) fun w hl => Any.utf8_ValidString Tryd.lays196 s w hs hl.1
theorem runeCount_calls (s : ByteArray) (hs : s.size < 9223372036854775807) : ICalls Tryd.prog 65 [.str s] [] (fun u _ => u = .int .i64 (Lib.runeCount s)) :=
  icalls_shelf (vs0 := #[.string s]) (fun D ρ vs h => rel_str h) (fun D ρ => .int _ _) fun w hl => (Any.utf8_RuneCountInString Tryd.lays195 s w hs).mono fun e w' ⟨h1, pos, h2⟩ => ⟨h1, h2 ▸ below_iter w s pos⟩
theorem cut_calls (s : ByteArray) (hs : s.size < 4294967281) : ICalls Tryd.prog 79 [.str s, .str ⟨#[58]⟩] [] (fun u _ => u = .tup [.str ⟨(Lib.cut s.data.toList [58]).1.toArray⟩, .str ⟨(Lib.cut s.data.toList [58]).2.1.toArray⟩, .bool (Lib.cut s.data.toList [58]).2.2]) :=
  icalls_shelf (vs0 := #[.string s, .string ⟨#[58]⟩]) (v := .tuple #[.string ⟨(Lib.cut s.data.toList [58]).1.toArray⟩, .string ⟨(Lib.cut s.data.toList [58]).2.1.toArray⟩, .bool (Lib.cut s.data.toList [58]).2.2]) (fun D ρ vs h => rel_str2 h) (fun D ρ => .tup _ _ rfl fun i u v e e' => by
    rcases i with _ | _ | _ | i <;> simp at e e'
    · subst e; subst e'; exact .str _
    · subst e; subst e'; exact .str _
    · subst e; subst e'; exact .bool _) fun w hl => by
    obtain ⟨m, hm⟩ := hl.2.1
    exact (Any.strings_Cut Tryd.lays145 s ⟨#[58]⟩ m w hs hm).mono fun e w' ⟨h1, n, h2⟩ => ⟨h1, h2 ▸ below_drewNm w n⟩
theorem low_range (x : Nat) (hx : x ≤ 1114111) : -2147483648 ≤ lowR x ∧ lowR x ≤ 2147483647 := by unfold lowR; split <;> omega
theorem map_calls (l : List UInt8) (hl : l.length < 35184372088832) : ICalls Tryd.prog 80 [.fn (.func 81) [] [], .str ⟨l.toArray⟩] [] (fun u _ => u = .str ⟨(Lib.mapD lowR l).toArray⟩) :=
  icalls_shelf (vs0 := #[.func (.func 81) #[] #[], .string ⟨l.toArray⟩]) (fun D ρ vs h => rel_fnstr h) (fun D ρ => .str _) fun w hL => by
    have hg : MapGrows Tryd.prog 81 #[] lowR w := fun W x hx hb => by
      have hLW := hL.below hb
      let B : Base := ⟨W, fun _ _ => none, hLW, fun b => W.heap.size ≤ b, fun _ h => h, fun b hb hf => by
        have : ∀ {o v}, W.cell? ⟨b, o, none⟩ = some v → False := fun {o v} h => absurd (World.block_lt_of_cell? W _ h) (Nat.not_lt.2 hf)
        obtain ⟨h1, ⟨m, h2⟩, _⟩ := hLW
        rcases hb with rfl | rfl | rfl | hb
        · exact this (h1.1 0 (by decide))
        · exact this (h1.2 0 (by decide)).1
        · exact this h2
        · exact hb⟩
      have hst : St B (fun _ _ => none) [] [] W := ⟨Keeps.refl _ _, fun _ _ _ e => (by cases e), fun _ _ _ e => (by cases e), rfl, fun k s o e => (by simp at e), fun k s b e => (by simp at e), fun j k s t b e => (by simp at e)⟩
      refine ((target1_calls (x : Int) (by omega) (by omega)) B _ [] W #[.int .i32 (x : Int)] hst ⟨rfl, fun i u v e e' => ?_⟩).mono ?_
      · rcases i with _ | i <;> simp at e e'
        subst e; subst e'; exact .int _ _
      · rintro e w' ⟨D', ρ', u, v, σ', rfl, _, hs, hv, rfl⟩
        exact ⟨by rw [hv.int_inv], hs.below.all⟩
    have := Any.strings_Map_grows Tryd.lays230 Tryd.Builder_Extra 81 #[] (enters_of Tryd.func81 (by kernel_rfl) rfl) lowR ⟨l.toArray⟩ w (by show l.toArray.size < _; simpa using hl) hg low_range hL.1
    exact this
theorem target_all (s : Str) (hs : s.size ≤ 1073741824) : ICalls Tryd.prog 76 [.str s] [] (fun u _ => u = .bool (targetV s)) :=
  target_calls s (by omega) (valid_calls s (by omega)) (cut_calls s (by omega)) fun l hl => map_calls l (by omega)
theorem count_calls (s : Str) (hs : s.size ≤ 1073741824) : ICalls Tryd.prog 52 [.str s] [] (fun u _ => u = .int .i64 (Lib.runeCount s)) := by
  refine x_enter Tryd.func52 Tryd.ntmps52 ?_
  refine ic_seq ?_
  refine ic_region ?_
  refine x_op ?_
  refine il_nil ?_
  refine ic_seq ?_
  refine ic_region ?_
  refine x_op ?_
  refine x_cv (runeCount_calls s (by omega)) ?_
  refine x_op ?_
  refine il_nil ?_
  refine ic_ret ?_
  repeat (first | with_reducible refine it_ret ?_ | with_reducible refine ib_ret ?_)
  exact x_res1 Tryd.results52 rfl
end Go.Proofs.YtokbhcnomffopaaDoor
end

section
/- QL, part 2: parts of arrays. Plain; no program in sight. -/
set_option linter.unusedVariables false
set_option linter.unusedSimpArgs false
namespace Go.QL
open Go Go.RowKit
section
variable {P : Program} {r : RN} {o : Oper} {e : Val2} {σ : List IObj}
theorem op_indexA {T E : TypeId} {x i : Operand} {cs : List IV} {k : IntKind} {n : Int} {len sz bytes : Nat} {z : Value} (hT : P.underlying T = some (.array len E)) (hE : Ty P E true z sz bytes) (ho : o.op = .index T x i) (hx : e x = .agg cs) (hi : e i = .int k n) (h0 : 0 ≤ n) (hn : n < len) :
    OpQ P r o e σ (.agg ((cs.drop (n.toNat * sz)).take sz)) σ := by
  refine opq_pure (by rw [ho]; rfl) fun W0 D ρ w A hs ha => ?_
  have h1 := ha x (by simp [ho, Op.operands])
  rw [hx] at h1
  have h2 := ha i (by simp [ho, Op.operands])
  rw [hi] at h2
  have h2 := h2.int_inv
  generalize hval : A.eval x = val at h1
  cases h1 with
  | agg _ vs hl hv =>
    have hr : Rel2 D ρ cs vs.toList := ⟨by simpa using hl, fun i u v e e' => hv i u v e (by simpa using e')⟩
    refine ⟨.agg (vs.extract (n.toNat * sz) (n.toNat * sz + sz)), ?_, ?_⟩
    · simp [execOp, ho, hval, h2, Instr.index, asIntOf, Sem.run_bind, run_underlying hT, Result.andThen, part, hE.isAgg, hE.sizeOf, h0, hn]
    · have := (hr.sub (n.toNat * sz) sz).agg
      have e2 : ((vs.toList.drop (n.toNat * sz)).take sz).toArray = vs.extract (n.toNat * sz) (n.toNat * sz + sz) := by
        apply Array.toList_inj.1
        simp [List.extract_eq_take_drop]
      rwa [e2] at this
theorem op_buildA {T E : TypeId} {n : Nat} {parts : Array (Nat × Operand)} {z zT : Value} {sz bytes szT bytesT : Nat} {agg : Bool} {us : List IV} (hT : P.underlying T = some (.array n E)) (hTT : Ty P T true zT szT bytesT) (hE : Ty P E agg z sz bytes) (hz : zT.cells.size = n * sz) (ho : o.op = .build T parts)
    (hp : parts.toList.map (fun p => (p.1, e p.2)) = (us.zipIdx 0).map fun p => (p.2, p.1)) (hus : us.length = n) (hg : Good sz us) : OpQ P r o e σ (.agg (flats us)) σ := by
  refine opq_pure (by rw [ho]; rfl) fun W0 D ρ w A hs ha => ?_
  have hzc : Rel2 D ρ (List.replicate (n * sz) IV.junk) zT.cells.toList := ⟨by simp [hz], fun i u v e1 e2 => by
    have := List.eq_of_mem_replicate (List.mem_of_getElem? e1)
    subst this
    exact .junk _⟩
  have hb := bfill_all (sz := sz) us [] (List.replicate (n * sz) IV.junk) hg (fun _ h => by cases h) (by simp [hus])
  simp only [flats, List.flatMap_nil, List.nil_append, List.length_nil] at hb
  rw [← hp] at hb
  obtain ⟨res, hres, hrel⟩ := fill_of (D := D) (ρ := ρ) (fun i => some (i * sz, sz)) (parts.toList.map fun p => (p.1, e p.2)) (parts.toList.map fun p => (p.1, A.eval p.2)) _ _ _ (by simp) (fun i u v e1 e2 => by
    simp only [List.getElem?_map, Option.map_eq_some_iff] at e1 e2
    obtain ⟨p, hp1, rfl⟩ := e1
    obtain ⟨q, hq, rfl⟩ := e2
    rw [hp1] at hq
    cases hq
    refine ⟨rfl, ha _ ?_⟩
    simp only [ho, Op.operands, List.mem_toArray, List.mem_map]
    exact ⟨p, by simpa using List.mem_of_getElem? hp1, rfl⟩) hzc hb
  refine ⟨.agg res, ?_, hrel.agg⟩
  have e1 : (parts.map fun (x : Nat × Operand) => (x.1, A.eval x.2)).toList = parts.toList.map fun p => (p.1, A.eval p.2) := by simp
  simp only [execOp, ho, Instr.build, Sem.run_bind, hTT.zero, run_underlying hT, Result.andThen_ok, hE.sizeOf, e1, hres, Sem.run_pure]
/-- Is it nil? It is. -/
theorem op_eqlnil0 {T E yt : TypeId} {x y : Operand} (hT : P.underlying T = some (.slice E)) (ho : o.op = .binOp .eql T x y yt) (hx : e x = .nils) (hy : e y = .nils) : OpQ P r o e σ (.bool true) σ := by
  refine opq_pure (by rw [ho]; rfl) fun W0 D ρ w A hs ha => ⟨.bool true, ?_, .bool _⟩
  have e1 := ha x (by simp [ho, Op.operands]); rw [hx] at e1; have e1 := e1.nils_inv
  have e2 := ha y (by simp [ho, Op.operands]); rw [hy] at e2; have e2 := e2.nils_inv
  have hg : (eqGuard .eql T x y (.slice none 0 0) (.slice none 0 0)).run P w = .ok () w := by unfold eqGuard; split <;> rfl
  simp only [execOp, ho, e1, e2, Sem.run_bind, hg, Result.andThen_ok, binOp]
  simp only [Sem.run_bind, run_equal_nil hT, Result.andThen_ok, Sem.run_pure]
  rfl
end
/-! ### tags -/
def clsV (t : Int) : Int := if t < 0 ∨ 16 < t then 0 else [1, 2, 3, 3, 3, 3, 2, 2, 2, 3, 4, 4, 4, 4, 4, 4, 5].getD t.toNat 0
end Go.QL
end

section
/- The contracts of tags.table, of, Class; slices.Clone[int]. -/
set_option linter.unusedVariables false
set_option linter.unusedSimpArgs false
set_option maxHeartbeats 4000000
namespace Go.Proofs.YtokbhcnomffopaaDoor
open Go Go.QL

theorem cloneInil_calls : ICalls Tryd.prog 34 [.nils] [] (fun u _ => u = .nils) := by
  refine x_enter Tryd.func34 Tryd.ntmps34 ?_
  refine ic_seq ?_
  refine ic_region ?_
  refine x_op ?_
  refine il_nil ?_
  refine ic_seq ?_
  refine ic_seq ?_
  refine ic_region ?_
  refine x_op ?_
  refine x_op (h := by exact op_eqlnil0 SlC.h rfl rfl rfl) ?_
  refine il_nil ?_
  refine ic_cond rfl (fun hc => ?_) (fun hc => ?_) -- t4
  · -- true
    refine ic_seq ?_
    refine ic_region ?_
    refine x_op ?_
    refine il_nil ?_
    refine ic_ret ?_
    repeat (first | with_reducible refine it_ret ?_ | with_reducible refine ib_ret ?_)
    exact x_res1 Tryd.results34 rfl
  · cases hc
theorem cloneI_calls (l : List Int) (f : Bool) (h0 : l ≠ []) (hl : l.length ≤ 4294967296) : ICalls Tryd.prog 34 [.sl f (l.map eI)] [] (fun u σ' => ∃ k, u = .row k (l.map eI).length ∧ σ'[k]? = some (.row TB_int 1 (l.map eI))) := by
  refine x_enter Tryd.func34 Tryd.ntmps34 ?_
  refine ic_seq ?_
  refine ic_region ?_
  refine x_op ?_
  refine il_nil ?_
  refine ic_seq ?_
  refine ic_seq ?_
  refine ic_region ?_
  refine x_op ?_
  refine il_kn rfl (op_eqlnil SlC.h rfl rfl rfl) ?_
  rintro v σ' ⟨rfl, b, rfl, hb⟩
  refine ⟨_, x_nf, ?_⟩
  refine il_nil ?_
  refine ic_cond rfl (fun hc => ?_) (fun hc => ?_) -- t4
  · -- true
    exact absurd (List.map_eq_nil_iff.1 (hb hc)) h0
  · -- false
    refine ic_skip ?_
    refine ic_seq ?_
    refine ic_region ?_
    refine x_op ?_
    refine x_op ?_
    refine x_op ?_
    refine x_op ?_
    refine il_nil ?_
    refine ic_ret ?_
    repeat (first | with_reducible refine it_ret ?_ | with_reducible refine ib_ret ?_)
    exact ⟨rfl, _, ires_tmp Tryd.results34 x_le, 0, by simp, rfl⟩
abbrev rowsI : List IV := [.agg [.nils, .int .i64 1], .agg [.sl true [.str ⟨#[100, 105, 118]⟩], .int .i64 2], .agg [.sl true [.str ⟨#[112]⟩], .int .i64 3], .agg [.sl true [.str ⟨#[104, 49]⟩], .int .i64 3], .agg [.sl true [.str ⟨#[104, 50]⟩], .int .i64 3], .agg [.sl true [.str ⟨#[104, 51]⟩], .int .i64 3], .agg [.sl true [.str ⟨#[98, 108, 111, 99, 107, 113, 117, 111, 116, 101]⟩], .int .i64 2], .agg [.sl true [.str ⟨#[117, 108]⟩], .int .i64 2], .agg [.sl true [.str ⟨#[111, 108]⟩], .int .i64 2], .agg [.sl true [.str ⟨#[108, 105]⟩], .int .i64 3], .agg [.sl true [.str ⟨#[97]⟩], .int .i64 4], .agg [.sl true [.str ⟨#[98]⟩, .str ⟨#[115, 116, 114, 111, 110, 103]⟩], .int .i64 4], .agg [.sl true [.str ⟨#[105]⟩, .str ⟨#[101, 109]⟩], .int .i64 4], .agg [.sl true [.str ⟨#[117]⟩, .str ⟨#[105, 110, 115]⟩], .int .i64 4], .agg [.sl true [.str ⟨#[115]⟩, .str ⟨#[115, 116, 114, 105, 107, 101]⟩, .str ⟨#[100, 101, 108]⟩], .int .i64 4], .agg [.sl true [.str ⟨#[115, 112, 97, 110]⟩], .int .i64 4], .agg [.sl true [.str ⟨#[98, 114]⟩], .int .i64 5]]
theorem table_calls : ICalls Tryd.prog 73 [] [] (fun u _ => u = .agg (flats rowsI)) := by
  refine x_enter Tryd.func73 Tryd.ntmps73 ?_
  refine ic_seq ?_
  refine ic_region ?_
  refine x_op ?_
  refine il_nil ?_
  refine ic_seq ?_
  refine ic_region ?_
  refine x_op ?_
  refine x_op ?_
  refine x_op ?_
  refine x_op ?_
  refine x_op ?_
  refine x_op ?_
  refine x_op ?_
  refine x_op ?_
  refine x_op ?_
  refine x_op ?_
  refine x_op ?_
  refine x_op ?_
  refine x_op ?_
  refine x_op ?_
  refine x_op ?_
  refine x_op ?_
  refine x_op ?_
  refine x_op ?_
  refine x_op ?_
  refine x_op ?_
  refine x_op ?_
  refine x_op ?_
  refine x_op ?_
  refine x_op ?_
  refine x_op ?_
  refine x_op ?_
  refine x_op ?_
  refine x_op ?_
  refine x_op ?_
  refine x_op ?_
  refine x_op ?_
  refine x_op ?_
  refine x_op ?_
  refine x_op (h := by exact op_buildA (us := rowsI) Tryd.underlying116 TyC.h TyC.h rfl rfl rfl rfl x_goods) ?_
  refine x_op ?_
  refine il_nil ?_
  refine ic_ret ?_
  repeat (first | with_reducible refine it_ret ?_ | with_reducible refine ib_ret ?_)
  exact x_res1 Tryd.results73 rfl
def ofI (t : Int) : List IV := if t < 0 ∨ 16 < t then [.nils, .int .i64 0] else ((flats rowsI).drop (t.toNat * 2)).take 2
theorem dat_rows : ∀ x ∈ flats rowsI, Dat x := by
  have key : ∀ l : List ByteArray, Dat (.sl true (l.map IV.str)) := fun l => Dat.sl fun x hx => by
    obtain ⟨s, _, rfl⟩ := List.mem_map.1 hx
    exact .str _
  intro x hx
  simp only [flats, rowsI, List.flatMap_cons, List.flatMap_nil, flat, List.cons_append, List.nil_append, List.append_nil, List.mem_cons, List.not_mem_nil, or_false] at hx
  rcases hx with rfl | rfl | rfl | rfl | rfl | rfl | rfl | rfl | rfl | rfl | rfl | rfl | rfl | rfl | rfl | rfl | rfl | rfl | rfl | rfl | rfl | rfl | rfl | rfl | rfl | rfl | rfl | rfl | rfl | rfl | rfl | rfl | rfl | rfl <;>
    first | exact Dat.int _ _ | exact Dat.nils | exact key [_] | exact key [_, _] | exact key [_, _, _]
theorem dat_of (t : Int) : ∀ x ∈ ofI t, Dat x := by
  intro x hx
  unfold ofI at hx
  split at hx
  · simp only [List.mem_cons, List.not_mem_nil, or_false] at hx
    rcases hx with rfl | rfl
    · exact Dat.nils
    · exact Dat.int _ _
  · exact dat_rows x (List.mem_of_mem_drop (List.mem_of_mem_take hx))
theorem of_t {t : Int} (h0 : ¬ t < 0) (h1 : ¬ 16 < t) : t = 0 ∨ t = 1 ∨ t = 2 ∨ t = 3 ∨ t = 4 ∨ t = 5 ∨ t = 6 ∨ t = 7 ∨ t = 8 ∨ t = 9 ∨ t = 10 ∨ t = 11 ∨ t = 12 ∨ t = 13 ∨ t = 14 ∨ t = 15 ∨ t = 16 := by omega
theorem of_cls (t : Int) : (ofI t)[1]? = some (.int .i64 (clsV t)) := by
  unfold ofI clsV
  by_cases h : t < 0 ∨ 16 < t
  · rw [if_pos h, if_pos h]; rfl
  · rw [if_neg h, if_neg h]
    rcases of_t (fun x => h (.inl x)) (fun x => h (.inr x)) with rfl | rfl | rfl | rfl | rfl | rfl | rfl | rfl | rfl | rfl | rfl | rfl | rfl | rfl | rfl | rfl | rfl <;> rfl
theorem of_calls (t : Int) : ICalls Tryd.prog 64 [.int .i64 t] [] (fun u _ => u = .agg (ofI t)) := by
  have hdr : Dat (.agg (flats rowsI)) := Dat.agg dat_rows
  refine x_enter Tryd.func64 Tryd.ntmps64 ?_
  refine ic_seq ?_
  refine ic_region ?_
  refine x_op ?_
  refine il_nil ?_
  refine ic_seq ?_
  refine ic_seq ?_
  refine ic_region ?_
  refine x_op ?_
  refine x_op ?_
  refine x_op ?_
  rcases Bool.eq_false_or_eq_true (decide (t < 0)) with h | h
  · have ht : ofI t = [.nils, .int .i64 0] := by unfold ofI; rw [if_pos (.inl (of_decide_eq_true h))]
    simp only [h]
    first | refine n_op ?_ | refine y_op ?_
    first | refine n_op ?_ | refine y_op ?_
    refine x_op ?_
    refine il_nil ?_
    refine ic_cond rfl (fun hc => ?_) (fun hc => ?_) -- t8
    · -- true
      rw [ht]
      refine ic_seq ?_
      refine ic_region ?_
      refine x_op ?_
      refine x_op ?_
      refine il_nil ?_
      refine ic_ret ?_
      repeat (first | with_reducible refine it_ret ?_ | with_reducible refine ib_ret ?_)
      exact x_res1 Tryd.results64 rfl
    · cases hc
  · simp only [h]
    first | refine n_op ?_ | refine y_op ?_
    first | refine n_op ?_ | refine y_op ?_
    refine x_op ?_
    refine il_nil ?_
    refine ic_cond rfl (fun hc => ?_) (fun hc => ?_) -- t8
    · -- true
      have ht : ofI t = [.nils, .int .i64 0] := by unfold ofI; rw [if_pos (.inr (of_decide_eq_true hc))]
      rw [ht]
      refine ic_seq ?_
      refine ic_region ?_
      refine x_op ?_
      refine x_op ?_
      refine il_nil ?_
      refine ic_ret ?_
      repeat (first | with_reducible refine it_ret ?_ | with_reducible refine ib_ret ?_)
      exact x_res1 Tryd.results64 rfl
    · -- false
      refine ic_skip ?_
      refine ic_seq ?_
      refine ic_region ?_
      rcases of_t (of_decide_eq_false h) (of_decide_eq_false hc) with rfl | rfl | rfl | rfl | rfl | rfl | rfl | rfl | rfl | rfl | rfl | rfl | rfl | rfl | rfl | rfl | rfl
      all_goals refine x_cv table_calls ?_
      all_goals refine x_op ?_
      all_goals refine x_op (h := by exact op_indexA Tryd.underlying116 TyC.h rfl rfl rfl (by omega) (by omega)) ?_
      all_goals refine x_op ?_
      all_goals refine il_nil ?_
      all_goals refine ic_ret ?_
      all_goals (repeat (first | with_reducible refine it_ret ?_ | with_reducible refine ib_ret ?_))
      all_goals exact x_res1 Tryd.results64 rfl
theorem class_calls' (t : Int) : ICalls Tryd.prog 51 [.int .i64 t] [] (fun u _ => u = .int .i64 (clsV t)) := by
  have hdr : Dat (.agg (ofI t)) := Dat.agg (dat_of t)
  refine x_enter Tryd.func51 Tryd.ntmps51 ?_
  refine ic_seq ?_
  refine ic_region ?_
  refine x_op ?_
  refine il_nil ?_
  refine ic_seq ?_
  refine ic_region ?_
  refine x_op ?_
  refine x_cv (of_calls t) ?_
  refine x_op (h := by exact op_field1 FldVC.h rfl rfl (of_cls t)) ?_
  refine x_op ?_
  refine il_nil ?_
  refine ic_ret ?_
  repeat (first | with_reducible refine it_ret ?_ | with_reducible refine ib_ret ?_)
  exact x_res1 Tryd.results51 rfl
end Go.Proofs.YtokbhcnomffopaaDoor
end

section
/- QL, part 3: a call with a pointer to one box; what the finder finds. No program in sight. -/
set_option linter.unusedVariables false
set_option linter.unusedSimpArgs false
namespace Go.QL
open Go Go.RowKit
section
variable {P : Program} {r : RN} {Q : IPost} {a a' : IA} {σ σ' : List IObj} {ops : Array Oper} {o : Oper} {rest : List Oper}
theorem x_cvP {f : FuncId} {g : Operand} {args : Array Operand} {tys : Array TypeId} {fs cs asx asx' ds ds' : List IV} {T : TypeId} {k : Nat} {v : IV} (hc : ICalls P f (.ptr 0 0 :: asx) [.box T ds] (fun u σ' => u = v ∧ σ'[0]? = some (.box T ds'))) (K : IL P r ops Q rest a' σ') [hF : FunC P f] (hk : σ[k]? = some (.box T ds) := by rfl) (hg : o.guard = none := by rfl) (ho : o.op = .call { callee := .value g, args := args, argTypes := tys } := by rfl)
    (he : ev a g = .fn (.func f) fs cs := by rfl) (has : fs ++ args.toList.map (ev a) ++ cs = .ptr k 0 :: asx' := by exact x_nf) (hw : Wks asx' asx := by exact x_wks) (hd : ∀ x ∈ asx, Dat x := by exact x_dats) (h1 : ∀ x ∈ ds, Dat x := by exact x_dats) (h2 : ∀ x ∈ ds', Dat x := by exact x_dats) (hu : Dat v := by exact x_dat) (ha : a.put o.dst v = a' := by exact x_nf) (hs : σ.set k (.box T ds') = σ' := by exact x_nf) : IL P r ops Q (o :: rest) a σ := by
  subst hs
  exact il_call hg ho he has ((hc.frameP hd h1 h2 hu hk).wks (.cons (.refl _) hw)) fun v' σ'' ⟨h1, h2⟩ => by subst h1; subst h2; rw [ha]; exact K
end
/-- A path: nil if it is empty. -/
def eIp (l : List Int) : IV := if l = [] then .nils else .sl false (l.map eI)
theorem dat_eIp (l : List Int) : Dat (eIp l) := by unfold eIp; split; exact Dat.nils; exact Dat.sl (dat_map dat_eI l)
theorem eIp_snoc (l : List Int) (i : Int) : eIp (l ++ [i]) = .sl false ((l ++ [i]).map eI) := by unfold eIp; rw [if_neg (by simp)]
theorem eIp_wk (l : List Int) : Wk (eIp l) (eIs l) := by
  unfold eIp eIs
  split
  · next h => subst h; exact Wk.nils _
  · exact Wk.refl _
mutual
def lineF : Nd → List Int → Int → Option (List Int × Nd) × Int
  | .mk _ _ _ kids, path, lines => lineL kids 0 path lines
def lineL : List Nd → Int → List Int → Int → Option (List Int × Nd) × Int
  | [], _, _, lines => (none, lines)
  | k :: ks, i, path, lines =>
    if clsV k.tag = 3 then (if lines = 0 then (some (path ++ [i], k), lines) else lineL ks (i + 1) path (lines - 1))
    else match lineF k (path ++ [i]) lines with
      | (some r, l) => (some r, l)
      | (none, l) => lineL ks (i + 1) path l
end
def lineR : Option (List Int × Nd) → IV
  | some (p, n) => .tup [eIp p, eN n, .bool true]
  | none => .tup [.nils, eN zeroN, .bool false]
theorem dat_lineR (r : Option (List Int × Nd)) : Dat (lineR r) := by
  rcases r with _ | ⟨p, n⟩
  · exact Dat.tup (dat_cons Dat.nils (dat_cons (dat_eN _) (dat_cons (Dat.bool _) dat_nil)))
  · exact Dat.tup (dat_cons (dat_eIp _) (dat_cons (dat_eN _) (dat_cons (Dat.bool _) dat_nil)))
theorem lineF_eq (n : Nd) (path : List Int) (lines : Int) : lineF n path lines = lineL n.kids 0 path lines := by cases n; rw [lineF]; rfl
mutual
theorem lineF_ge : ∀ (n : Nd) (path : List Int) (lines : Int), 0 ≤ lines → 0 ≤ (lineF n path lines).2 ∧ (lineF n path lines).2 ≤ lines
  | .mk _ _ _ kids, path, lines, h => by rw [lineF]; exact lineL_ge kids 0 path lines h
theorem lineL_ge : ∀ (l : List Nd) (i : Int) (path : List Int) (lines : Int), 0 ≤ lines → 0 ≤ (lineL l i path lines).2 ∧ (lineL l i path lines).2 ≤ lines
  | [], i, path, lines, h => by rw [lineL]; exact ⟨h, Int.le_refl _⟩
  | k :: ks, i, path, lines, h => by
    rw [lineL]
    split
    · split
      · exact ⟨h, Int.le_refl _⟩
      · have := lineL_ge ks (i + 1) path (lines - 1) (by omega)
        omega
    · have h1 := lineF_ge k (path ++ [i]) lines h
      split
      · next r l e => rw [e] at h1; exact h1
      · next l e =>
        rw [e] at h1
        have h2 := lineL_ge ks (i + 1) path l h1.1
        have h1 : 0 ≤ l ∧ l ≤ lines := h1
        omega
end
mutual
def leafF : Nd → List Int → Int → Option (List Int × Int) × Int
  | .mk _ _ _ kids, path, c => leafL kids 0 path c
def leafL : List Nd → Int → List Int → Int → Option (List Int × Int) × Int
  | [], _, _, c => (none, c)
  | k :: ks, i, path, c =>
    if k.tag = 16 then (if c = 1 then (some (path, i + 1), c) else leafL ks (i + 1) path (c - 1))
    else if k.tag = 0 then (if c ≤ (Lib.runeCount k.text : Int) then (some (path ++ [i], c), c) else leafL ks (i + 1) path (c - (Lib.runeCount k.text : Int)))
    else match leafF k (path ++ [i]) c with
      | (some r, c') => (some r, c')
      | (none, c') => leafL ks (i + 1) path c'
end
def leafR : Option (List Int × Int) → IV
  | some (p, a) => .tup [.agg [eIp p, .int .i64 a], .bool true]
  | none => .tup [.agg [.nils, .int .i64 0], .bool false]
theorem dat_leafR (r : Option (List Int × Int)) : Dat (leafR r) := by
  rcases r with _ | ⟨p, n⟩
  · exact Dat.tup (dat_cons (Dat.agg (dat_cons Dat.nils (dat_cons (Dat.int _ _) dat_nil))) (dat_cons (Dat.bool _) dat_nil))
  · exact Dat.tup (dat_cons (Dat.agg (dat_cons (dat_eIp _) (dat_cons (Dat.int _ _) dat_nil))) (dat_cons (Dat.bool _) dat_nil))
theorem leafF_eq (n : Nd) (path : List Int) (c : Int) : leafF n path c = leafL n.kids 0 path c := by cases n; rw [leafF]; rfl
theorem eIp_or (l : List Int) : eIp l = .nils ∨ eIp l = .sl false (l.map eI) := by unfold eIp; split; exact .inl rfl; exact .inr rfl
mutual
theorem leafF_ge : ∀ (n : Nd) (path : List Int) (c : Int), 1 ≤ c → 1 ≤ (leafF n path c).2 ∧ (leafF n path c).2 ≤ c
  | .mk _ _ _ kids, path, c, h => by rw [leafF]; exact leafL_ge kids 0 path c h
theorem leafL_ge : ∀ (l : List Nd) (i : Int) (path : List Int) (c : Int), 1 ≤ c → 1 ≤ (leafL l i path c).2 ∧ (leafL l i path c).2 ≤ c
  | [], i, path, c, h => by rw [leafL]; exact ⟨h, Int.le_refl _⟩
  | k :: ks, i, path, c, h => by
    rw [leafL]
    split
    · split
      · exact ⟨h, Int.le_refl _⟩
      · have := leafL_ge ks (i + 1) path (c - 1) (by omega)
        omega
    · split
      · split
        · exact ⟨h, Int.le_refl _⟩
        · have := leafL_ge ks (i + 1) path (c - (Lib.runeCount k.text : Int)) (by omega)
          omega
      · have h1 := leafF_ge k (path ++ [i]) c h
        split
        · next r l e => rw [e] at h1; exact h1
        · next l e =>
          rw [e] at h1
          have h2 := leafL_ge ks (i + 1) path l h1.1
          have h1 : 1 ≤ l ∧ l ≤ c := h1
          omega
end
theorem tbl_mem {n : Nd} : ∀ {l : List Nd}, n ∈ l → n.tb ≤ tbl l
  | [], h => by cases h
  | x :: l, h => by
    simp only [tbl]
    rcases List.mem_cons.1 h with rfl | h
    · omega
    · have := tbl_mem h; omega
end Go.QL
end

section
/- The contract of finder.line. -/
set_option linter.unusedVariables false
set_option linter.unusedSimpArgs false
set_option maxHeartbeats 4000000
namespace Go.Proofs.YtokbhcnomffopaaDoor
open Go Go.QL

abbrev fdr (l c : Int) : IObj := .box 73 [.int .i64 l, .int .i64 c]
theorem line_calls2 : ∀ (m : Nat) (n : Nd) (path : List Int) (lines cells : Int), n.sz ≤ m → path.length + m ≤ 1073741824 → 0 ≤ lines → lines ≤ 4294967296 →
    ICalls Tryd.prog 32 [.ptr 0 0, eN n, eIp path] [fdr lines cells] (fun u σ' => u = lineR (lineF n path lines).1 ∧ σ'[0]? = some (fdr (lineF n path lines).2 cells))
  | 0, n, path, lines, cells, hn, hp, h0, h1 => by have := n.sz_eq; omega
  | m + 1, n, path, lines, cells, hn, hp, h0, h1 => by
    have hsz := n.sz_eq
    have hkl := szl_len n.kids
    have dp := dat_eIp path
    rw [lineF_eq]
    refine x_enter Tryd.func32 Tryd.ntmps32 ?_
    refine ic_seq ?_
    refine ic_region ?_
    refine x_op ?_
    refine x_op ?_
    refine x_op ?_
    refine x_op ?_
    refine il_nil ?_
    refine ic_seq ?_
    refine ic_seq ?_
    refine ic_region ?_
    refine x_op ?_
    refine x_op ?_
    refine x_op ?_
    refine x_op ?_
    refine il_nil ?_
    refine ic_block ?_ -- 0
    refine x_loop [18] [6, 8, 9, 10, 11, 12, 13, 14, 19, 20, 21, 22, 23, 24, 25, 26, 27, 28, 29, 30, 31, 32, 33, 34, 35, 36, 37, 38, 39, 40, 41, 42, 43, 44, 45, 46, 47, 48, 49, 50, 51, 52, 53, 54, 55, 56, 57] (fun m vs σ => ∃ (i : Nat) (l : Int), i ≤ n.kids.length ∧ lineL (n.kids.drop i) i path l = lineL n.kids 0 path lines ∧ 0 ≤ l ∧ l ≤ lines ∧ m = n.kids.length - i ∧ vs = [.int .i64 i] ∧ σ = [fdr l cells, .box 41 (ndc n), .box 41 [.int .i64 0, .nils, .str ⟨#[]⟩, .nils]]) ⟨0, lines, Nat.zero_le _, rfl, h0, Int.le_refl _, rfl, rfl, rfl⟩ ?_
    rintro k vs σ ⟨i, l, hi, hl, hl0, hl1, rfl, rfl, rfl⟩
    simp only [sets, nf, ndc]
    refine ic_seq ?_
    refine ic_region ?_
    refine x_op ?_
    refine il_nil ?_
    refine ic_seq ?_
    refine ic_cond rfl (fun hc => ?_) (fun hc => ?_) -- t19
    · -- true
      have hil : i < n.kids.length := by have := of_decide_eq_true hc; omega
      obtain ⟨k, hk⟩ : ∃ k, n.kids[i] = k := ⟨_, rfl⟩
      have hxi : (n.kids.map eN)[((i : Nat) : Int).toNat]? = some (eN k) := by simp [hil, hk]
      have hks : k.sz ≤ szl n.kids := szl_mem (hk ▸ List.getElem_mem hil)
      rw [List.drop_eq_getElem_cons hil, hk, lineL] at hl
      refine ic_skip ?_
      refine x_mid [] [6, 8, 9, 10, 11, 12, 13, 14, 20, 21, 22, 23, 24, 25, 26, 27, 28, 29, 30, 31, 32, 33, 34, 35, 36, 37, 38, 39, 40, 41, 42, 43, 44, 45, 46, 47, 48, 49, 50, 51, 52, 53, 54, 55, 56] (fun vs σ => vs = [] ∧ ∃ l' : Int, lineL (n.kids.drop (i + 1)) ((i + 1 : Nat) : Int) path l' = lineL n.kids 0 path lines ∧ 0 ≤ l' ∧ l' ≤ lines ∧ σ = [fdr l' cells, .box 41 (ndc n), .box 41 [.int .i64 0, .nils, .str ⟨#[]⟩, .nils]]) ?_ ?_
      ·
        refine ic_block ?_ -- 1
        refine ic_seq ?_
        refine ic_region ?_
        refine x_op ?_
        refine x_op ?_
        refine x_op ?_
        refine x_op ?_
        refine x_op ?_
        refine x_op ?_
        refine il_nil ?_
        refine x_mid [11] [23, 24, 25, 26, 27] (fun vs σ => vs = [.sl false ((path ++ [(i : Int)]).map eI)] ∧ σ = [fdr l cells, .box 41 (ndc n), .box 41 [.int .i64 0, .nils, .str ⟨#[]⟩, .nils], .box 41 (ndc k)]) ?_ ?_
        · by_cases hpe : path = []
          · subst hpe
            simp only [show eIp [] = IV.nils from rfl]
            refine ic_region ?_
            refine x_op ?_
            refine x_cv (cloneInil_calls) ?_
            refine x_op ?_
            refine x_op ?_
            refine x_op ?_
            refine il_frow 4 ?_
            refine x_op ?_
            refine il_nil ?_
            exact x_here ⟨rfl, rfl⟩
          · have he : eIp path = .sl false (path.map eI) := by unfold eIp; rw [if_neg hpe]
            simp only [he]
            refine ic_region ?_
            refine x_op ?_
            refine x_crow (cloneI_calls path false hpe (by omega)) (dat_map dat_eI path) ?_
            refine x_op ?_
            refine x_op ?_
            refine x_op ?_
            simp only [show path.length + 1 = (path ++ [(i : Int)]).length by simp, show path.map eI ++ [IV.int .i64 i] = (path ++ [(i : Int)]).map eI by rw [List.map_append]; rfl]
            refine il_frow 4 ?_
            refine x_op ?_
            refine il_nil ?_
            exact x_here ⟨rfl, rfl⟩
        rintro vs σ ⟨rfl, rfl⟩
        simp only [sets, nf, ndc]
        refine ic_seq ?_
        refine ic_seq ?_
        refine ic_region ?_
        refine x_op ?_
        refine x_op ?_
        refine x_cv (class_calls' k.tag) ?_
        refine x_op ?_
        refine il_nil ?_
        refine ic_cond rfl (fun hc => ?_) (fun hc => ?_) -- t31
        · -- true
          rw [if_pos (of_decide_eq_true hc)] at hl
          refine ic_seq ?_
          refine ic_seq ?_
          refine ic_region ?_
          refine x_op ?_
          refine x_op ?_
          refine x_op ?_
          refine x_op ?_
          refine x_op ?_
          refine il_nil ?_
          refine ic_cond rfl (fun hc => ?_) (fun hc => ?_) -- t36
          · -- true
            rw [if_pos (of_decide_eq_true hc)] at hl
            rw [← hl]
            simp only [lineR, eIp_snoc]
            refine ic_seq ?_
            refine ic_drawq 3 (by kernel_rfl) rfl rfl ?_
            refine q_op ?_
            refine q_op ?_
            refine q_op ?_
            refine iq_nil ?_
            refine d_op 3 ?_
            refine d_op 4 ?_
            refine d_done ?_
            refine ic_ret ?_
            repeat (first | with_reducible refine it_ret ?_ | with_reducible refine ib_ret ?_)
            exact x_res3 Tryd.results32 ⟨rfl, rfl⟩
          · -- false
            have hne : ¬ l = 0 := of_decide_eq_false hc
            rw [if_neg hne] at hl
            refine ic_skip ?_
            refine ic_seq ?_
            refine ic_region ?_
            refine x_op ?_
            refine x_op ?_
            refine x_op ?_
            refine x_op ?_
            refine x_op ?_
            refine x_op ?_
            refine x_op ?_
            refine x_op ?_
            refine il_nil ?_
            refine ic_exit ?_ -- 1
            exact x_here ⟨rfl, l - 1, hl, by omega, by omega, rfl⟩
        · -- false
          rw [if_neg (of_decide_eq_false hc)] at hl
          have hcall := line_calls2 m k (path ++ [(i : Int)]) l cells (by omega) (by rw [List.length_append, List.length_cons, List.length_nil]; omega) hl0 (by omega)
          have hge := lineF_ge k (path ++ [(i : Int)]) l hl0
          rw [eIp_snoc] at hcall
          have dps : Dat (.sl false ((path ++ [(i : Int)]).map eI)) := Dat.sl (dat_map dat_eI _)
          refine ic_skip ?_
          refine ic_seq ?_
          refine ic_region ?_
          refine x_op ?_
          refine x_op ?_
          refine x_op ?_
          rcases e : lineF k (path ++ [(i : Int)]) l with ⟨_ | ⟨q, mn⟩, l'⟩
          · rw [e] at hcall hl hge
            simp only [lineR] at hcall
            refine x_cvP (k := 0) hcall ?_
            refine x_op ?_
            refine x_op ?_
            refine x_op ?_
            refine x_op ?_
            refine x_op ?_
            refine x_op ?_
            refine x_op ?_
            refine x_op ?_
            refine il_nil ?_
            refine ic_seq ?_
            refine ic_region ?_
            refine x_op ?_
            refine il_nil ?_
            refine ic_cond rfl (fun hc => ?_) (fun hc => ?_) -- t54
            · cases hc
            · refine ic_skip ?_
              exact x_here ⟨rfl, l', hl, hge.1, Int.le_trans hge.2 hl1, rfl⟩
          · rw [e] at hcall hl hge
            simp only [lineR] at hcall
            have dq := dat_eIp q
            refine x_cvP (k := 0) hcall ?_
            refine x_op ?_
            refine x_op ?_
            refine x_op ?_
            refine x_op ?_
            refine x_op ?_
            refine x_op ?_
            refine x_op ?_
            refine x_op ?_
            refine il_nil ?_
            refine ic_seq ?_
            refine ic_region ?_
            refine x_op ?_
            refine il_nil ?_
            refine ic_cond rfl (fun hc => ?_) (fun hc => ?_) -- t54
            · rw [← hl]
              refine ic_seq ?_
              refine ic_drawq 3 (by kernel_rfl) rfl rfl ?_
              refine q_op ?_
              refine q_op ?_
              refine q_op ?_
              refine iq_nil ?_
              refine d_op 3 ?_
              refine d_op 4 ?_
              refine d_done ?_
              refine ic_ret ?_
              repeat (first | with_reducible refine it_ret ?_ | with_reducible refine ib_ret ?_)
              exact x_res3 Tryd.results32 ⟨rfl, rfl⟩
            · cases hc
      rintro vs σ ⟨rfl, l', hl', hl0', hl1', rfl⟩
      simp only [sets, nf, ndc]
      refine ic_region ?_
      refine x_op ?_
      refine x_op ?_
      refine il_nil ?_
      exact x_next (n.kids.length - (i + 1)) ⟨i + 1, l', by omega, hl', hl0', hl1', rfl, rfl, rfl⟩ (by omega) -- round
    · -- false
      refine ic_exit ?_ -- 0
      obtain rfl : i = n.kids.length := by have := of_decide_eq_false hc; omega
      rw [List.drop_length] at hl
      rw [← hl, lineL]
      refine ic_seq ?_
      refine ic_region ?_
      refine x_op ?_
      refine x_op ?_
      refine x_op ?_
      refine x_op ?_
      refine il_nil ?_
      refine ic_ret ?_
      repeat (first | with_reducible refine it_ret ?_ | with_reducible refine ib_ret ?_)
      exact x_res3 Tryd.results32 ⟨rfl, rfl⟩
end Go.Proofs.YtokbhcnomffopaaDoor
end

section
/- The contract of finder.leaf. -/
set_option linter.unusedVariables false
set_option linter.unusedSimpArgs false
set_option maxHeartbeats 4000000
namespace Go.Proofs.YtokbhcnomffopaaDoor
open Go Go.QL

theorem leaf_calls2 : ∀ (m : Nat) (n : Nd) (path : List Int) (lines c0 : Int), n.sz ≤ m → path.length + m ≤ 1073741824 → n.tb ≤ 1073741824 → 1 ≤ c0 → c0 ≤ 4294967296 →
    ICalls Tryd.prog 33 [.ptr 0 0, eN n, eIp path] [fdr lines c0] (fun u σ' => u = leafR (leafF n path c0).1 ∧ σ'[0]? = some (fdr lines (leafF n path c0).2))
  | 0, n, path, lines, c0, hn, hp, ht, h0, h1 => by have := n.sz_eq; omega
  | m + 1, n, path, lines, c0, hn, hp, ht, h0, h1 => by
    have hsz := n.sz_eq
    have htb := n.tb_eq
    have hkl := szl_len n.kids
    have dp := dat_eIp path
    rw [leafF_eq]
    refine x_enter Tryd.func33 Tryd.ntmps33 ?_
    refine ic_seq ?_
    refine ic_region ?_
    refine x_op ?_
    refine x_op ?_
    refine x_op ?_
    refine il_nil ?_
    refine ic_seq ?_
    refine ic_seq ?_
    refine ic_region ?_
    refine x_op ?_
    refine x_op ?_
    refine x_op ?_
    refine x_op ?_
    refine il_nil ?_
    refine ic_block ?_ -- 0
    refine x_loop [17] [7, 8, 9, 10, 11, 12, 13, 18, 19, 20, 21, 22, 23, 24, 25, 26, 27, 28, 29, 30, 31, 32, 33, 34, 35, 36, 37, 38, 39, 40, 41, 42, 43, 44, 45, 46, 47, 48, 49, 50, 51, 52, 53, 54, 55, 56, 57, 58, 59, 60, 61, 62, 63, 64, 65, 66, 67, 68, 69, 70, 71, 72, 73, 74, 75, 76, 77] (fun m vs σ => ∃ (i : Nat) (c : Int), i ≤ n.kids.length ∧ leafL (n.kids.drop i) i path c = leafL n.kids 0 path c0 ∧ 1 ≤ c ∧ c ≤ c0 ∧ m = n.kids.length - i ∧ vs = [.int .i64 i] ∧ σ = [fdr lines c, .box 41 (ndc n), .box 48 [.nils, .int .i64 0]]) ⟨0, c0, Nat.zero_le _, rfl, h0, Int.le_refl _, rfl, rfl, rfl⟩ ?_
    rintro k vs σ ⟨i, c, hi, hl, hl0, hl1, rfl, rfl, rfl⟩
    simp only [sets, nf, ndc]
    refine ic_seq ?_
    refine ic_region ?_
    refine x_op ?_
    refine il_nil ?_
    refine ic_seq ?_
    refine ic_cond rfl (fun hc => ?_) (fun hc => ?_) -- t18
    · -- true
      have hil : i < n.kids.length := by have := of_decide_eq_true hc; omega
      obtain ⟨k, hk⟩ : ∃ k, n.kids[i] = k := ⟨_, rfl⟩
      have hxi : (n.kids.map eN)[((i : Nat) : Int).toNat]? = some (eN k) := by simp [hil, hk]
      have hks : k.sz ≤ szl n.kids := szl_mem (hk ▸ List.getElem_mem hil)
      have hkt : k.tb ≤ tbl n.kids := tbl_mem (hk ▸ List.getElem_mem hil)
      have hkt2 := k.tb_eq
      have hrc := Lib.runeCount_le k.text
      rw [List.drop_eq_getElem_cons hil, hk, leafL] at hl
      refine ic_skip ?_
      refine x_mid [] [7, 8, 9, 10, 11, 12, 13, 19, 20, 21, 22, 23, 24, 25, 26, 27, 28, 29, 30, 31, 32, 33, 34, 35, 36, 37, 38, 39, 40, 41, 42, 43, 44, 45, 46, 47, 48, 49, 50, 51, 52, 53, 54, 55, 56, 57, 58, 59, 60, 61, 62, 63, 64, 65, 66, 67, 68, 69, 70, 71, 72, 73, 74, 75, 76] (fun vs σ => vs = [] ∧ ∃ c' : Int, leafL (n.kids.drop (i + 1)) ((i + 1 : Nat) : Int) path c' = leafL n.kids 0 path c0 ∧ 1 ≤ c' ∧ c' ≤ c0 ∧ σ = [fdr lines c', .box 41 (ndc n), .box 48 [.nils, .int .i64 0]]) ?_ ?_
      ·
        refine ic_block ?_ -- 1
        refine ic_seq ?_
        refine ic_region ?_
        refine x_op ?_
        refine x_op ?_
        refine x_op ?_
        refine x_op ?_
        refine x_op ?_
        refine x_op ?_
        refine il_nil ?_
        refine x_mid [10] [22, 23, 24, 25, 26] (fun vs σ => vs = [.sl false ((path ++ [(i : Int)]).map eI)] ∧ σ = [fdr lines c, .box 41 (ndc n), .box 48 [.nils, .int .i64 0], .box 41 (ndc k)]) ?_ ?_
        · by_cases hpe : path = []
          · subst hpe
            simp only [show eIp [] = IV.nils from rfl]
            refine ic_region ?_
            refine x_op ?_
            refine x_cv (cloneInil_calls) ?_
            refine x_op ?_
            refine x_op ?_
            refine x_op ?_
            refine il_frow 4 ?_
            refine x_op ?_
            refine il_nil ?_
            exact x_here ⟨rfl, rfl⟩
          · have he : eIp path = .sl false (path.map eI) := by unfold eIp; rw [if_neg hpe]
            simp only [he]
            refine ic_region ?_
            refine x_op ?_
            refine x_crow (cloneI_calls path false hpe (by omega)) (dat_map dat_eI path) ?_
            refine x_op ?_
            refine x_op ?_
            refine x_op ?_
            simp only [show path.length + 1 = (path ++ [(i : Int)]).length by simp, show path.map eI ++ [IV.int .i64 i] = (path ++ [(i : Int)]).map eI by rw [List.map_append]; rfl]
            refine il_frow 4 ?_
            refine x_op ?_
            refine il_nil ?_
            exact x_here ⟨rfl, rfl⟩
        rintro vs σ ⟨rfl, rfl⟩
        simp only [sets, nf, ndc]
        refine ic_seq ?_
        refine ic_region ?_
        refine x_op ?_
        refine x_op ?_
        refine x_cv (count_calls k.text (by omega)) ?_
        refine x_op ?_
        refine il_nil ?_
        refine x_mid [11] [7, 12, 13, 30, 31, 32, 33, 34, 35, 36, 37, 38, 39, 40, 41, 42, 43, 44, 45, 46, 47, 48, 49, 50, 51, 52, 53, 54, 55, 56, 57, 58, 59, 60, 61, 62, 63, 64, 65, 66, 67, 68] (fun vs σ => ∃ size : Int, leafL (n.kids.drop (i + 1)) ((i + 1 : Nat) : Int) path (c - size) = leafL n.kids 0 path c0 ∧ 1 ≤ c - size ∧ 0 ≤ size ∧ vs = [.int .i64 size] ∧ σ = [fdr lines c, .box 41 (ndc n), .box 48 [.nils, .int .i64 0], .box 41 (ndc k)]) ?_ ?_
        ·
          refine ic_block ?_ -- 2
          refine ic_seq ?_
          refine ic_region ?_
          refine x_op ?_
          refine x_op ?_
          refine x_op ?_
          refine x_op ?_
          refine il_nil ?_
          refine ic_cond rfl (fun hc => ?_) (fun hc => ?_) -- t30
          · -- true
            rw [if_pos (of_decide_eq_true hc)] at hl
            refine ic_seq ?_
            refine ic_region ?_
            refine x_op ?_
            refine il_nil ?_
            refine ic_seq ?_
            refine ic_region ?_
            refine x_op ?_
            refine x_op ?_
            refine x_op ?_
            refine x_op ?_
            refine x_op ?_
            refine il_nil ?_
            refine ic_cond rfl (fun hc => ?_) (fun hc => ?_) -- t38
            · -- true
              rw [if_pos (of_decide_eq_true hc)] at hl
              rw [← hl]
              simp only [leafR]
              rcases eIp_or path with he | he
              · simp only [he]
                refine ic_seq ?_
                refine ic_region ?_
                refine x_op ?_
                refine x_op ?_
                refine x_op ?_
                refine x_op ?_
                refine x_op ?_
                refine x_op ?_
                refine il_nil ?_
                refine ic_ret ?_
                repeat (first | with_reducible refine it_ret ?_ | with_reducible refine ib_ret ?_)
                exact x_res2 Tryd.results33 ⟨rfl, rfl⟩
              · simp only [he]
                refine ic_seq ?_
                refine ic_region ?_
                refine x_op ?_
                refine x_op ?_
                refine x_op ?_
                refine x_op ?_
                refine x_op ?_
                refine x_op ?_
                refine il_nil ?_
                refine ic_ret ?_
                repeat (first | with_reducible refine it_ret ?_ | with_reducible refine ib_ret ?_)
                exact x_res2 Tryd.results33 ⟨rfl, rfl⟩
            · -- false
              have hne : ¬ c = 1 := of_decide_eq_false hc
              rw [if_neg hne] at hl
              refine ic_skip ?_
              exact x_here ⟨1, hl, by omega, by omega, rfl, rfl⟩
          · -- false
            rw [if_neg (of_decide_eq_false hc)] at hl
            refine ic_seq ?_
            refine ic_region ?_
            refine x_op ?_
            refine x_op ?_
            refine x_op ?_
            refine x_op ?_
            refine il_nil ?_
            refine ic_cond rfl (fun hc => ?_) (fun hc => ?_) -- t43
            · -- true
              have hne : ¬ k.tag = 0 := by simpa using hc
              rw [if_neg hne] at hl
              have hcall := leaf_calls2 m k (path ++ [(i : Int)]) lines c (by omega) (by rw [List.length_append, List.length_cons, List.length_nil]; omega) (by omega) hl0 (by omega)
              have hge := leafF_ge k (path ++ [(i : Int)]) c hl0
              rw [eIp_snoc] at hcall
              have dps : Dat (.sl false ((path ++ [(i : Int)]).map eI)) := Dat.sl (dat_map dat_eI _)
              refine ic_seq ?_
              refine ic_seq ?_
              refine ic_region ?_
              refine x_op ?_
              refine x_op ?_
              refine x_op ?_
              rcases e : leafF k (path ++ [(i : Int)]) c with ⟨_ | ⟨q, a⟩, c'⟩
              · rw [e] at hcall hl hge
                simp only [leafR] at hcall
                refine x_cvP (k := 0) (hu := dat_leafR none) hcall ?_
                refine x_op ?_
                refine x_op ?_
                refine x_op ?_
                refine x_op ?_
                refine x_op ?_
                refine x_op ?_
                refine il_nil ?_
                refine ic_seq ?_
                refine ic_region ?_
                refine x_op ?_
                refine il_nil ?_
                refine ic_cond rfl (fun hc => ?_) (fun hc => ?_) -- t54
                · cases hc
                · refine ic_skip ?_
                  refine ic_exit ?_ -- 1
                  exact x_here ⟨rfl, c', hl, hge.1, Int.le_trans hge.2 hl1, rfl⟩
              · rw [e] at hcall hl hge
                simp only [leafR] at hcall
                have hd := dat_leafR (some (q, a))
                simp only [leafR] at hd
                rw [← hl]
                simp only [leafR]
                rcases eIp_or q with he | he
                · rw [he] at hcall hd
                  simp only [he]
                  refine x_cvP (k := 0) (hu := hd) hcall ?_
                  refine x_op ?_
                  refine x_op ?_
                  refine x_op ?_
                  refine x_op ?_
                  refine x_op ?_
                  refine x_op ?_
                  refine il_nil ?_
                  refine ic_seq ?_
                  refine ic_region ?_
                  refine x_op ?_
                  refine il_nil ?_
                  refine ic_cond rfl (fun hc => ?_) (fun hc => ?_) -- t54
                  · refine ic_seq ?_
                    refine ic_region ?_
                    refine x_op ?_
                    refine x_op ?_
                    refine x_op ?_
                    refine il_nil ?_
                    refine ic_ret ?_
                    repeat (first | with_reducible refine it_ret ?_ | with_reducible refine ib_ret ?_)
                    exact x_res2 Tryd.results33 ⟨rfl, rfl⟩
                  · cases hc
                · rw [he] at hcall hd
                  simp only [he]
                  refine x_cvP (k := 0) (hu := hd) hcall ?_
                  refine x_op ?_
                  refine x_op ?_
                  refine x_op ?_
                  refine x_op ?_
                  refine x_op ?_
                  refine x_op ?_
                  refine il_nil ?_
                  refine ic_seq ?_
                  refine ic_region ?_
                  refine x_op ?_
                  refine il_nil ?_
                  refine ic_cond rfl (fun hc => ?_) (fun hc => ?_) -- t54
                  · refine ic_seq ?_
                    refine ic_region ?_
                    refine x_op ?_
                    refine x_op ?_
                    refine x_op ?_
                    refine il_nil ?_
                    refine ic_ret ?_
                    repeat (first | with_reducible refine it_ret ?_ | with_reducible refine ib_ret ?_)
                    exact x_res2 Tryd.results33 ⟨rfl, rfl⟩
                  · cases hc
            · -- false
              have heq : k.tag = 0 := by simpa using hc
              rw [if_pos heq] at hl
              refine ic_seq ?_
              refine ic_region ?_
              refine x_op ?_
              refine x_op ?_
              refine x_op ?_
              refine x_op ?_
              refine x_op ?_
              refine x_op ?_
              refine x_op ?_
              refine il_nil ?_
              refine ic_cond rfl (fun hc => ?_) (fun hc => ?_) -- t56
              · -- true
                rw [if_pos (of_decide_eq_true hc)] at hl
                rw [← hl]
                simp only [leafR, eIp_snoc]
                refine ic_seq ?_
                refine ic_region ?_
                refine x_op ?_
                refine x_op ?_
                refine x_op ?_
                refine x_op ?_
                refine x_op ?_
                refine x_op ?_
                refine x_op ?_
                refine x_op ?_
                refine il_nil ?_
                refine ic_ret ?_
                repeat (first | with_reducible refine it_ret ?_ | with_reducible refine ib_ret ?_)
                exact x_res2 Tryd.results33 ⟨rfl, rfl⟩
              · -- false
                have hne : ¬ c ≤ (Lib.runeCount k.text : Int) := of_decide_eq_false hc
                rw [if_neg hne] at hl
                refine ic_skip ?_
                exact x_here ⟨_, hl, by omega, by omega, rfl, rfl⟩
        rintro vs σ ⟨size, hl', hs1, hs2, rfl, rfl⟩
        simp only [sets, nf, ndc]
        refine ic_region ?_
        refine x_op ?_
        refine x_op ?_
        refine x_op ?_
        refine x_op ?_
        refine x_op ?_
        refine x_op ?_
        refine x_op ?_
        refine x_op ?_
        refine x_op ?_
        refine il_nil ?_
        exact x_here ⟨rfl, c - size, hl', hs1, by omega, rfl⟩
      rintro vs σ ⟨rfl, c', hl', hl0', hl1', rfl⟩
      simp only [sets, nf, ndc]
      refine ic_region ?_
      refine x_op ?_
      refine x_op ?_
      refine il_nil ?_
      exact x_next (n.kids.length - (i + 1)) ⟨i + 1, c', by omega, hl', hl0', hl1', rfl, rfl, rfl⟩ (by omega) -- round
    · -- false
      refine ic_exit ?_ -- 0
      obtain rfl : i = n.kids.length := by have := of_decide_eq_false hc; omega
      rw [List.drop_length] at hl
      rw [← hl, leafL]
      simp only [leafR]
      refine ic_seq ?_
      refine ic_region ?_
      refine x_op ?_
      refine x_op ?_
      refine x_op ?_
      refine il_nil ?_
      refine ic_ret ?_
      repeat (first | with_reducible refine it_ret ?_ | with_reducible refine ib_ret ?_)
      exact x_res2 Tryd.results33 ⟨rfl, rfl⟩
end Go.Proofs.YtokbhcnomffopaaDoor
end

section
/- The contracts of render.Way and of what it calls (slices.Repeat). -/
set_option linter.unusedVariables false
set_option linter.unusedSimpArgs false
set_option maxHeartbeats 4000000
namespace Go.Proofs.YtokbhcnomffopaaDoor
open Go Go.QL

theorem mul64_calls (n : Nat) (h : n ≤ 6) : ICalls Tryd.prog 84 [.int .u64 1, .int .u64 n] [] (fun u _ => u = .tup [.int .u64 0, .int .u64 n]) := by
  have hn : n = 0 ∨ n = 1 ∨ n = 2 ∨ n = 3 ∨ n = 4 ∨ n = 5 ∨ n = 6 := by omega
  refine x_enter Tryd.func84 Tryd.ntmps84 ?_
  rcases hn with rfl | rfl | rfl | rfl | rfl | rfl | rfl
  all_goals
    repeat (first | refine x_op ?_ | refine il_nil ?_ | refine ic_seq ?_ | refine ic_region ?_ | refine ic_block ?_ | refine ic_skip ?_ | refine ic_exit ?_)
    refine ic_ret ?_
    repeat (first | with_reducible refine it_ret ?_ | with_reducible refine ib_ret ?_)
    exact x_res2 Tryd.results84 rfl
theorem mul_calls (n : Nat) (h : n ≤ 6) : ICalls Tryd.prog 77 [.int .u64 1, .int .u64 n] [] (fun u _ => u = .tup [.int .u64 0, .int .u64 n]) := by
  refine x_enter Tryd.func77 Tryd.ntmps77 ?_
  refine ic_seq ?_
  refine ic_region ?_
  refine x_op ?_
  refine x_op ?_
  refine il_nil ?_
  refine ic_seq ?_
  refine ic_cond rfl (fun hc => by cases hc) (fun hc => ?_) -- false
  refine ic_skip ?_
  refine ic_seq ?_
  refine ic_region ?_
  refine x_op ?_
  refine x_op ?_
  refine x_cv (mul64_calls n h) ?_
  refine x_op ?_
  refine x_op ?_
  refine x_op ?_
  refine x_op ?_
  refine x_op ?_
  refine il_nil ?_
  refine ic_seq ?_
  refine ic_region ?_
  refine x_op ?_
  refine x_op ?_
  refine x_op ?_
  refine x_op ?_
  refine il_nil ?_
  refine ic_ret ?_
  repeat (first | with_reducible refine it_ret ?_ | with_reducible refine ib_ret ?_)
  exact x_res2 Tryd.results77 rfl
theorem repeat_calls (v : Int) (f : Bool) (n : Nat) (h : n ≤ 6) : ICalls Tryd.prog 72 [.sl f [eI v], .int .i64 n] [] (fun u σ' => ∃ k, u = .row k (List.replicate n (eI v)).length ∧ σ'[k]? = some (.row TB_int 1 (List.replicate n (eI v)))) := by
  have hw1 : IntKind.u64.wrap (n : Int) = n := by
    have hn : n = 0 ∨ n = 1 ∨ n = 2 ∨ n = 3 ∨ n = 4 ∨ n = 5 ∨ n = 6 := by omega
    rcases hn with rfl | rfl | rfl | rfl | rfl | rfl | rfl <;> rfl
  have hw2 : IntKind.i64.wrap (n : Int) = n := by
    have hn : n = 0 ∨ n = 1 ∨ n = 2 ∨ n = 3 ∨ n = 4 ∨ n = 5 ∨ n = 6 := by omega
    rcases hn with rfl | rfl | rfl | rfl | rfl | rfl | rfl <;> rfl
  refine x_enter Tryd.func72 Tryd.ntmps72 ?_
  refine ic_seq ?_
  refine ic_region ?_
  refine x_op ?_
  refine il_nil ?_
  refine ic_seq ?_
  refine ic_seq ?_
  refine ic_region ?_
  refine x_op ?_
  refine x_op ?_
  refine il_nil ?_
  refine ic_cond rfl (fun hc => ?_) (fun hc => ?_) -- t10
  · have := of_decide_eq_true hc; omega
  refine ic_skip ?_
  refine ic_seq ?_
  refine ic_region ?_
  refine x_op ?_
  refine x_op ?_
  refine x_op ?_
  refine x_op ?_
  refine x_op ?_
  simp only [hw1]
  refine x_cv (mul_calls n h) ?_
  refine x_op ?_
  refine x_op ?_
  refine x_op ?_
  refine x_op ?_
  refine x_op ?_
  refine il_nil ?_
  refine ic_seq ?_
  have hbig : decide ((9223372036854775807 : Int) < (n : Int)) = false := decide_eq_false (by omega)
  have hz0 : decide ((0 : Int) < 0) = false := rfl
  refine x_mid [26] [21, 22, 23, 24, 25] (fun vs σ => vs = [.bool false] ∧ σ = []) ?_ ?_
  · refine ic_region ?_
    repeat' (first | refine x_op ?_ | refine n_op ?_ | refine y_op ?_ | refine il_split (fun _ => ?_) (fun _ => ?_) | refine il_nil ?_)
    all_goals exact x_there
  rintro vs σ ⟨rfl, rfl⟩
  simp only [sets, nf]
  refine ic_cond rfl (fun hc => by cases hc) (fun hc => ?_) -- t26
  refine ic_skip ?_
  refine ic_seq ?_
  refine ic_region ?_
  refine x_op ?_
  refine x_op ?_
  simp only [hw2]
  refine x_op (h := by exact op_makeSlice (u := eI 0) SlC.h TyC.h rfl rfl rfl rfl rfl rfl (by omega) (by omega)) ?_
  refine x_op ?_
  refine il_nil ?_
  refine ic_seq ?_
  refine ic_region ?_
  refine x_op ?_
  refine x_op ?_
  have hr0 : List.replicate n (eI 0) = repR (eI v) n 0 := by simp [repR, eI]
  rw [hr0]
  refine x_op (h := by exact op_rep1 SlC.h TyC.h rfl rfl rfl rfl rfl (good_eI [v])) ?_
  refine x_op ?_
  refine il_nil ?_
  refine ic_seq ?_
  refine ic_block ?_ -- 0
  refine x_loop [8] [34, 35, 36, 37, 38, 39, 40, 41, 42, 43, 44, 45, 46] (fun m vs σ => ∃ c : Nat, c ≤ n ∧ (0 < n → 0 < c) ∧ m = n - c ∧ vs = [.int .i64 c] ∧ σ = [.row TB_int 1 (repR (eI v) n c)]) ⟨min 1 n, by omega, by omega, rfl, rfl, rfl⟩ ?_ (ho := olts_cons (olt_row fun x hx => by
    rcases List.mem_append.1 hx with hx | hx
    · rw [List.eq_of_mem_replicate hx]; exact dat_eI v
    · rw [List.eq_of_mem_replicate hx]; exact dat_eI 0) olts_nil)
  rintro m vs σ ⟨c, hc1, hc0, rfl, rfl, rfl⟩
  simp only [sets, nf]
  refine ic_seq ?_
  refine ic_seq ?_
  refine ic_region ?_
  refine x_op ?_
  refine x_op ?_
  refine x_op ?_
  refine x_op ?_
  refine il_nil ?_
  refine ic_cond rfl (fun hc => ?_) (fun hc => ?_) -- t37
  · -- true
    have hcn : c < n := by have := of_decide_eq_true hc; omega
    have hcpos := hc0 (by omega)
    have hl := repR_len (eI v) n c hc1
    refine ic_skip ?_
    refine ic_block ?_ -- 1
    refine ic_draws [0, 1, 2, 3, 4, 5, 6] (by kernel_rfl) rfl rfl ?_ -- of 10
    refine q_op ?_
    refine q_op ?_
    refine q_op ?_
    refine q_op (h := by exact op_sliceRl SlC.h TyC.h rfl rfl rfl rfl hl.symm (by omega) (by omega)) ?_
    refine q_op ?_
    refine q_op ?_
    refine q_op (h := by exact op_sliceRh SlC.h TyC.h rfl rfl rfl rfl hl.symm (by omega) (by omega) (by omega)) ?_
    refine iq_nil ?_
    refine s_opr 7 (h := by exact op_repN SlC.h TyC.h rfl rfl rfl rfl hcn rfl rfl) ?_ ?_ -- copy
    ·
      refine q_op ?_
      refine q_op ?_
      refine q_op ?_
      refine q_op (h := by exact op_sliceRl SlC.h TyC.h rfl rfl rfl rfl (repR_len _ _ _ (by omega)).symm (by omega) (by omega)) ?_
      refine q_op ?_
      refine q_op ?_
      refine q_op (h := by exact op_sliceRh SlC.h TyC.h rfl rfl rfl rfl (repR_len _ _ _ (by omega)).symm (by omega) (by omega) (by omega)) ?_
      refine iq_nil ?_
      rfl
    refine s_op 8 ?_ -- add
    refine s_op 9 ?_ -- assign
    refine s_done ?_
    simp only [Int.toNat_natCast]
    rw [show (c : Int) + ((min c (n - c) : Nat) : Int) = ((c + min c (n - c) : Nat) : Int) by omega]
    exact x_next (n - (c + min c (n - c))) ⟨c + min c (n - c), by omega, by omega, rfl, rfl, rfl⟩ (by omega) (ho := olts_cons (olt_row fun x hx => by
      rcases List.mem_append.1 hx with hx | hx
      · rw [List.eq_of_mem_replicate hx]; exact dat_eI v
      · rw [List.eq_of_mem_replicate hx]; exact dat_eI 0) olts_nil)
  · -- false
    obtain rfl : c = n := by have := of_decide_eq_false hc; omega
    have hfin : repR (eI v) c c = List.replicate c (eI v) := by simp [repR]
    rw [hfin]
    refine ic_exit ?_ -- 0
    refine ic_seq ?_
    refine ic_region ?_
    refine x_op ?_
    refine x_op ?_
    refine il_nil ?_
    refine ic_ret ?_
    repeat (first | with_reducible refine it_ret ?_ | with_reducible refine ib_ret ?_)
    exact x_res1 Tryd.results72 (u' := .row 0 c) ⟨0, by simp, rfl⟩
end Go.Proofs.YtokbhcnomffopaaDoor
end

section
/- The contracts of package value, and of what it calls. -/
set_option linter.unusedVariables false
set_option linter.unusedSimpArgs false
set_option maxHeartbeats 4000000
namespace Go.Proofs.YtokbhcnomffopaaDoor
open Go Go.QL

theorem cloneA_calls (f : Bool) (l : List At) (hl : l.length ≤ 4294967296) : ICalls Tryd.prog 66 [.sl f (l.map eA)] [] (fun u _ => u = eAs l) := by
  refine x_enter Tryd.func66 Tryd.ntmps66 ?_
  refine ic_seq ?_
  refine ic_region ?_
  refine x_op ?_
  refine il_nil ?_
  refine ic_seq ?_
  refine ic_seq ?_
  refine ic_region ?_
  refine x_op ?_
  refine il_kn rfl (op_eqlnil SlC.h rfl rfl rfl) ?_
  rintro v σ' ⟨rfl, b, rfl, hb⟩
  refine ⟨_, x_nf, ?_⟩
  refine il_nil ?_
  refine ic_cond rfl (fun hc => ?_) (fun hc => ?_) -- t4
  · -- true
    refine ic_seq ?_
    refine ic_region ?_
    refine x_op ?_
    refine il_nil ?_
    refine ic_ret ?_
    repeat (first | with_reducible refine it_ret ?_ | with_reducible refine ib_ret ?_)
    have := List.map_eq_nil_iff.1 (hb hc)
    subst this
    exact ⟨rfl, _, ires_wk (ires_tmp Tryd.results66 x_le) (Wk.nils false), rfl⟩
  · -- false
    refine ic_skip ?_
    refine ic_seq ?_
    refine ic_region ?_
    refine x_op ?_
    refine x_op ?_
    refine x_op ?_
    refine x_op ?_
    refine il_nil ?_
    refine ic_freeze 2 rfl rfl (by simp) ?_
    refine ic_ret ?_
    repeat (first | with_reducible refine it_ret ?_ | with_reducible refine ib_ret ?_)
    exact ⟨rfl, _, ires_tmp Tryd.results66 x_le, rfl⟩

abbrev owns_t (l : List Nd) (f : Bool) (i : Nat) : List IV := [.sl f (l.map eN), .junk, .junk, .row 0 i, .junk, .junk, .sl f (l.map eN), .int .i64 l.length, .int .i64 i, .junk, .junk, .junk, .junk, .junk, .junk, .junk, .junk, .junk, .junk]
abbrev owns_s (l : List Nd) (i : Nat) : List IObj := [.row 41 4 ((l.take i).map eN)]
theorem owns_calls' (l : List Nd) (f : Bool) (hl : l.length ≤ 4294967296) (ho : ∀ n ∈ l, ICalls Tryd.prog 53 [eN n] [] (fun u _ => u = eN n)) : ICalls Tryd.prog 36 [.sl f (l.map eN)] [] (fun u _ => u = eNs l) := by
  refine x_enter Tryd.func36 Tryd.ntmps36 ?_
  refine ic_seq ?_
  refine ic_region ?_
  refine x_op ?_
  refine il_nil ?_
  refine ic_seq ?_
  refine ic_region ?_
  refine x_op ?_
  refine il_nil ?_
  refine ic_seq ?_
  refine ic_seq ?_
  refine ic_region ?_
  refine x_op ?_
  refine x_op ?_
  refine x_op ?_
  refine il_nil ?_
  refine ic_block ?_ -- 0
  refine ic_row0t 3 41 4 rfl rfl x_nf x_nf ?_
  -- LOOP
  refine ic_loopT (fun m t σ => ∃ i : Nat, i ≤ l.length ∧ m = l.length - i ∧ t = owns_t l f i ∧ σ = owns_s l i) [] (m := l.length) (loose_mk (t' := owns_t l f 0) (σ' := owns_s l 0) (τ := []) x_wks rfl (Nat.zero_le _) x_lts marks_nil x_olts ?_) ?_
  · exact ⟨0, Nat.zero_le _, rfl, rfl, rfl⟩
  rintro m t σ ⟨i, hi, rfl, rfl, rfl⟩
  dsimp only [owns_t, owns_s]
  refine ic_seq ?_
  refine ic_region ?_
  refine x_op ?_
  refine il_nil ?_
  refine ic_seq ?_
  refine ic_cond rfl (fun hc => ?_) (fun hc => ?_) -- t9
  · -- true
    refine ic_skip ?_
    refine ic_seq ?_
    refine ic_block ?_ -- 1
    refine ic_seq ?_
    refine ic_region ?_
    have hil : i < l.length := by have := of_decide_eq_true hc; omega
    have hix : (l.map eN)[((i : Nat) : Int).toNat]? = some (eN l[i]) := by simp [hil]
    have e1 : (l.take i).length = i := by rw [List.length_take]; omega
    have e2 : (l.take i).map eN ++ [eN l[i]] = (l.take (i + 1)).map eN := by rw [List.take_succ_eq_append_getElem hil, List.map_append]; rfl
    refine x_op ?_
    refine x_op ?_
    refine x_op ?_
    refine x_op ?_
    refine il_nil ?_
    refine ic_region ?_
    refine x_op ?_
    refine x_op ?_
    refine il_callv rfl rfl rfl x_nf ((ho _ (List.getElem_mem hil)).frame1 x_dats (dat_eN _) _) x_nf ?_
    refine x_op ?_
    refine x_op ?_
    refine x_op ?_
    refine il_nil ?_
    refine ic_region ?_
    refine x_op ?_
    refine x_op ?_
    refine il_nil ?_
    simp only [e1, e2, List.length_cons, List.length_nil]
    exact ⟨l.length - (i + 1), by omega, loose_mk (t' := owns_t l f (i + 1)) (σ' := owns_s l (i + 1)) x_wks rfl (Nat.zero_le _) x_lts marks_nil x_olts ⟨i + 1, hil, rfl, rfl, rfl⟩⟩ -- round
  · -- false
    refine ic_exit ?_ -- 0
    refine ic_seq ?_
    refine ic_region ?_
    refine x_op ?_
    refine x_op ?_
    refine il_nil ?_
    obtain rfl : i = l.length := by have := of_decide_eq_false hc; omega
    refine ic_freeze 2 rfl rfl (by simp) ?_
    refine ic_ret ?_
    repeat (first | with_reducible refine it_ret ?_ | with_reducible refine ib_ret ?_)
    refine ⟨rfl, _, ires_tmp Tryd.results36 x_le, ?_⟩
    simp [nf, eNs]
theorem own_calls' (n : Nd) (hl : n.attrs.length ≤ 4294967296) (ho : ICalls Tryd.prog 36 [.sl false (n.kids.map eN)] [] (fun u _ => u = eNs n.kids)) : ICalls Tryd.prog 53 [eN n] [] (fun u _ => u = eN n) := by
  refine x_enter Tryd.func53 Tryd.ntmps53 ?_
  refine ic_seq ?_
  refine ic_region ?_
  refine x_op ?_
  refine x_op ?_
  refine il_nil ?_
  refine ic_seq ?_
  refine ic_drawq 7 (by kernel_rfl) rfl rfl ?_
  refine q_op ?_
  refine q_op ?_
  refine iq_callv rfl rfl rfl x_nf ((cloneA_calls false n.attrs hl).frame1 x_dats (dat_eAs _) _) x_nf ?_
  refine q_op ?_
  refine q_op ?_
  refine iq_callv rfl rfl rfl x_nf (ho.frame1 x_dats (dat_eNs _) _) x_nf ?_
  refine q_op ?_
  refine iq_nil ?_
  refine d_op 7 ?_
  refine d_op 8 ?_
  refine d_op 9 ?_
  refine d_done ?_
  refine ic_seq ?_
  refine ic_region ?_
  refine x_op ?_
  refine x_op ?_
  refine il_nil ?_
  refine ic_ret ?_
  repeat (first | with_reducible refine it_ret ?_ | with_reducible refine ib_ret ?_)
  refine ⟨rfl, _, ires_cell Tryd.results53 TyC.h rfl rfl (by simp), ?_⟩
  simp only [nf]
theorem own_all : ∀ (m : Nat), m ≤ 4294967296 → (∀ n : Nd, n.sz ≤ m → ICalls Tryd.prog 53 [eN n] [] (fun u _ => u = eN n))
  | 0, _, n, h => absurd (n.sz_eq ▸ h) (by omega)
  | m + 1, hm, n, h => by
    have hs := n.sz_eq
    exact own_calls' n (by omega) (owns_calls' n.kids false (by have := szl_len n.kids; omega) fun k hk => own_all m (by omega) k (by have := szl_mem hk; omega))
theorem own_calls (n : Nd) (h : n.sz ≤ 4294967296) : ICalls Tryd.prog 53 [eN n] [] (fun u _ => u = eN n) := own_all _ h n (Nat.le_refl _)
theorem owns_calls (l : List Nd) (f : Bool) (h : szl l ≤ 4294967296) : ICalls Tryd.prog 36 [.sl f (l.map eN)] [] (fun u _ => u = eNs l) :=
  owns_calls' l f (by have := szl_len l; omega) fun n hn => own_calls n (by have := szl_mem hn; omega)
theorem elem_calls (tag : Int) (l : List Nd) (f : Bool) (h : szl l ≤ 4294967296) : ICalls Tryd.prog 26 [.int .i64 tag, .sl f (l.map eN)] [] (fun u _ => u = eN (.mk tag [] ⟨#[]⟩ l)) := by
  refine x_enter Tryd.func26 Tryd.ntmps26 ?_
  refine ic_seq ?_
  refine ic_region ?_
  refine x_op ?_
  refine il_nil ?_
  refine ic_seq ?_
  refine ic_region ?_
  refine x_op ?_
  refine x_op ?_
  refine il_callv rfl rfl rfl x_nf ((owns_calls l f h).frame1 x_dats (dat_eNs _) _) x_nf ?_
  refine x_op ?_
  refine x_op ?_
  refine il_nil ?_
  refine ic_ret ?_
  repeat (first | with_reducible refine it_ret ?_ | with_reducible refine ib_ret ?_)
  exact ⟨rfl, eN (.mk tag [] ⟨#[]⟩ l), ires_wk (ires_cell Tryd.results26 TyC.h rfl rfl (by simp)) (by rw [← eN_mk]; exact Wk.agg x_wks), rfl⟩
theorem text_calls (s : Str) : ICalls Tryd.prog 55 [.str s] [] (fun u _ => u = eN (.mk 0 [] s [])) := by
  refine x_enter Tryd.func55 Tryd.ntmps55 ?_
  refine ic_seq ?_
  refine ic_region ?_
  refine x_op ?_
  refine il_nil ?_
  refine ic_seq ?_
  refine ic_region ?_
  refine x_op ?_
  refine x_op ?_
  refine x_op ?_
  refine il_nil ?_
  refine ic_ret ?_
  repeat (first | with_reducible refine it_ret ?_ | with_reducible refine ib_ret ?_)
  exact ⟨rfl, eN (.mk 0 [] s []), ires_wk (ires_cell Tryd.results55 TyC.h rfl rfl (by simp)) (by rw [← eN_mk]; exact Wk.agg x_wks), rfl⟩
end Go.Proofs.YtokbhcnomffopaaDoor
end

section
/- The contract of value.Wrap. -/
set_option linter.unusedVariables false
set_option linter.unusedSimpArgs false
set_option maxHeartbeats 4000000
namespace Go.Proofs.YtokbhcnomffopaaDoor
open Go Go.QL

abbrev wrap_t (bits : Int) (href : Str) (l : List Nd) (f : Bool) (i : Nat) : List IV := [.int .i64 bits, .str href, .sl f (l.map eN), .junk, .junk, .junk, .junk, eNs (wrapN bits l i), .junk, .junk, .junk, .junk, .sl true [.int .i64 14, .int .i64 13, .int .i64 12, .int .i64 11], .int .i64 4, .int .i64 i,
  .junk, .junk, .junk, .junk, .junk, .junk, .junk, .junk, .junk, .junk, .junk, .junk, .junk, .junk, .junk, .junk, .junk, .junk, .junk, .junk, .junk, .junk, .junk]
theorem wrap_calls (bits : Int) (href : Str) (l : List Nd) (f : Bool) (h : szl l ≤ 4294967296) : ICalls Tryd.prog 17 [.int .i64 bits, .str href, .sl f (l.map eN)] [] (fun u _ => u = eNs (wrapV bits href l)) := by
  refine x_enter Tryd.func17 Tryd.ntmps17 ?_
  refine ic_seq ?_
  refine ic_region ?_
  refine x_op ?_
  refine il_nil ?_
  refine ic_seq ?_
  refine ic_region ?_
  refine x_op ?_
  refine il_callv rfl rfl rfl x_nf ((owns_calls l f h).frame1 x_dats (dat_eNs _) _) x_nf ?_
  refine x_op ?_
  refine il_nil ?_
  refine ic_seq ?_
  refine ic_seq ?_
  refine ic_region ?_
  refine x_op ?_
  refine x_op ?_
  refine x_op ?_
  refine il_nil ?_
  refine ic_block ?_ -- 0
  -- LOOP
  refine ic_loopT (fun m t σ => ∃ i : Nat, i ≤ 4 ∧ m = 4 - i ∧ t = wrap_t bits href l f i ∧ σ = []) [] (m := 4) (loose_mk (t' := wrap_t bits href l f 0) (σ' := []) (τ := []) x_wks rfl (Nat.zero_le _) x_lts marks_nil x_olts ?_) ?_
  · exact ⟨0, Nat.zero_le _, rfl, rfl, rfl⟩
  rintro m t σ ⟨i, hi, rfl, rfl, rfl⟩
  dsimp only [wrap_t]
  refine ic_seq ?_
  refine ic_region ?_
  refine x_op ?_
  refine il_nil ?_
  refine ic_seq ?_
  refine ic_cond rfl (fun hc => ?_) (fun hc => ?_) -- t15
  · -- true
    have hil : i < 4 := by have := of_decide_eq_true hc; omega
    have hix : [IV.int .i64 14, IV.int .i64 13, IV.int .i64 12, IV.int .i64 11][((i : Nat) : Int).toNat]? = some (.int .i64 (14 - i)) := by
      rcases i with _ | _ | _ | _ | i <;> first | rfl | omega
    refine ic_skip ?_
    refine ic_seq ?_
    refine ic_block ?_ -- 1
    refine ic_seq ?_
    refine ic_region ?_
    refine x_op ?_
    refine x_op ?_
    refine x_op ?_
    refine il_nil ?_
    refine ic_seq ?_
    refine ic_region ?_
    refine x_op ?_
    refine x_op ?_
    refine x_op ?_
    refine x_op ?_
    refine x_op ?_
    refine x_op ?_
    refine il_nil ?_
    refine ic_cond rfl (fun hc => ?_) (fun hc => ?_) -- t23
    · -- true
      have e1 : wrapN bits l (i + 1) = [.mk (14 - i) [] ⟨#[]⟩ (wrapN bits l i)] := by
        simp only [wrapN, wrap1]
        rw [if_neg (by simpa using hc)]
      refine ic_region ?_
      refine x_op ?_
      refine x_op ?_
      refine x_op ?_
      refine x_op ?_
      refine x_op ?_
      refine il_nil ?_
      refine ic_region ?_
      refine x_op ?_
      refine x_op ?_
      refine il_nil ?_
      exact ⟨4 - (i + 1), by omega, loose_mk (t' := wrap_t bits href l f (i + 1)) (σ' := []) (by rw [wrap_t, e1]; repeat (first | exact Wks.nil | refine Wks.cons (Wk.refl _) ?_ | refine Wks.cons (Wk.junk _) ?_ | refine Wks.cons (Wk.nd1 (Wk.nils _) (Wk.refl _)) ?_)) rfl (Nat.zero_le _) x_lts marks_nil x_olts ⟨i + 1, hil, rfl, rfl, rfl⟩⟩ -- round
    · -- false
      have e1 : wrapN bits l (i + 1) = wrapN bits l i := by
        simp only [wrapN, wrap1]
        rw [if_pos (by simpa using hc)]
      refine ic_skip ?_
      refine ic_region ?_
      refine x_op ?_
      refine x_op ?_
      refine il_nil ?_
      exact ⟨4 - (i + 1), by omega, loose_mk (t' := wrap_t bits href l f (i + 1)) (σ' := []) (by rw [wrap_t, e1]; repeat (first | exact Wks.nil | refine Wks.cons (Wk.refl _) ?_ | refine Wks.cons (Wk.junk _) ?_)) rfl (Nat.zero_le _) x_lts marks_nil x_olts ⟨i + 1, hil, rfl, rfl, rfl⟩⟩ -- round
  · -- false
    refine ic_exit ?_ -- 0
    obtain rfl : i = 4 := by have := of_decide_eq_false hc; omega
    refine ic_seq ?_
    refine ic_seq ?_
    refine ic_region ?_
    refine x_op ?_
    refine x_op ?_
    refine il_nil ?_
    refine ic_cond rfl (fun hc => ?_) (fun hc => ?_) -- t30
    · -- true
      have e1 : wrapV bits href l = [.mk 10 [hrefAt href] ⟨#[]⟩ (wrapN bits l 4)] := by
        simp only [wrapV]
        rw [if_neg (by simpa using hc)]
      refine ic_region ?_
      refine x_op ?_
      refine x_op ?_
      refine x_op ?_
      refine x_op ?_
      refine x_op ?_
      refine x_op ?_
      refine x_op ?_
      refine il_nil ?_
      refine ic_seq ?_
      refine ic_region ?_
      refine x_op ?_
      refine x_op ?_
      refine il_nil ?_
      refine ic_ret ?_
      repeat (first | with_reducible refine it_ret ?_ | with_reducible refine ib_ret ?_)
      exact ⟨rfl, eNs (wrapV bits href l), ires_wk (ires_tmp Tryd.results17 x_le) (by rw [e1]; exact Wk.nd1 (Wk.sl _ [eA (hrefAt href)]) (Wk.refl _)), rfl⟩
    · -- false
      have e1 : wrapV bits href l = wrapN bits l 4 := by
        simp only [wrapV]
        rw [if_pos (by simpa using hc)]
      refine ic_skip ?_
      refine ic_seq ?_
      refine ic_region ?_
      refine x_op ?_
      refine x_op ?_
      refine il_nil ?_
      refine ic_ret ?_
      repeat (first | with_reducible refine it_ret ?_ | with_reducible refine ib_ret ?_)
      exact ⟨rfl, _, ires_tmp Tryd.results17 x_le, by rw [e1]; rfl⟩
end Go.Proofs.YtokbhcnomffopaaDoor
end
