/- Part 2 of the texts below the theorem of the last part. -/
import Derived.Test.YtokbhcnomffopaaGreatDoorProg
import Derived.KernelRfl
import Derived.Laws.OwnMore
import Derived.Laws.CopyRow
import Derived.Laws.IdiomCopy
import Derived.Laws.Small
import Derived.Lib.RuneCount
import Derived.Lib.MapU
import Derived.Lib.IndexMore
import Derived.Lib.ValidU
import Derived.Shelf.Strings.Cut
import Derived.Shelf.Utf8.RuneCount
import Derived.Shelf.Unicode.ValidAny
import Derived.Shelf.Strings.MapGrows
import Derived.Test.YtokbhcnomffopaaGreatDoorMint1
section
/- The seat's types and functions, as QL asks them. Printed by gen_facts.py. -/
set_option linter.unusedVariables false
namespace Go.Proofs.YtokbhcnomffopaaGreatDoor
open Go Go.QL
instance ty1 : TyC Tryz.prog 1 false .nilFunc [.nilf] 1 8 := ⟨⟨⟨_, Tryz.underlying1, rfl⟩, by kernel_rfl⟩, rfl, rfl⟩
instance ty2 : TyC Tryz.prog 2 false (.int .i64 0) [.int .i64 0] 1 8 := ⟨⟨⟨_, Tryz.underlying2, rfl⟩, by kernel_rfl⟩, rfl, rfl⟩
instance : IntC Tryz.prog 2 .i64 := ⟨Tryz.underlying2⟩
instance ty3 : TyC Tryz.prog 3 false (.int .i64 0) [.int .i64 0] 1 8 := ⟨⟨⟨_, Tryz.underlying3, rfl⟩, by kernel_rfl⟩, rfl, rfl⟩
instance : IntC Tryz.prog 3 .i64 := ⟨Tryz.underlying3⟩
instance ty4 : TyC Tryz.prog 4 false (.bool false) [.bool false] 1 1 := ⟨⟨⟨_, Tryz.underlying4, rfl⟩, by kernel_rfl⟩, rfl, rfl⟩
instance : BoolC Tryz.prog 4 := ⟨Tryz.underlying4⟩
instance ty5 : TyC Tryz.prog 5 false (.int .u8 0) [.int .u8 0] 1 1 := ⟨⟨⟨_, Tryz.underlying5, rfl⟩, by kernel_rfl⟩, rfl, rfl⟩
instance : IntC Tryz.prog 5 .u8 := ⟨Tryz.underlying5⟩
instance ty6 : TyC Tryz.prog 6 false (.int .u8 0) [.int .u8 0] 1 1 := ⟨⟨⟨_, Tryz.underlying6, rfl⟩, by kernel_rfl⟩, rfl, rfl⟩
instance : IntC Tryz.prog 6 .u8 := ⟨Tryz.underlying6⟩
instance ty7 : TyC Tryz.prog 7 true (.agg #[(.int .i64 0), (.int .i64 0), (.bool false), (.int .u8 0)]) [.int .i64 0, .int .i64 0, .bool false, .int .u8 0] 4 24 := ⟨⟨⟨_, Tryz.underlying7, rfl⟩, by kernel_rfl⟩, rfl, rfl⟩
instance ty8 : TyC Tryz.prog 8 true (.agg #[(.int .i64 0), (.int .i64 0), (.bool false), (.int .u8 0)]) [.int .i64 0, .int .i64 0, .bool false, .int .u8 0] 4 24 := ⟨⟨⟨_, Tryz.underlying8, rfl⟩, by kernel_rfl⟩, rfl, rfl⟩
instance ty9 : TyC Tryz.prog 9 false (.string ⟨#[]⟩) [.str ⟨#[]⟩] 1 16 := ⟨⟨⟨_, Tryz.underlying9, rfl⟩, by kernel_rfl⟩, rfl, rfl⟩
instance : StrC Tryz.prog 9 := ⟨Tryz.underlying9⟩
instance ty10 : TyC Tryz.prog 10 false (.string ⟨#[]⟩) [.str ⟨#[]⟩] 1 16 := ⟨⟨⟨_, Tryz.underlying10, rfl⟩, by kernel_rfl⟩, rfl, rfl⟩
instance : StrC Tryz.prog 10 := ⟨Tryz.underlying10⟩
instance ty11 : TyC Tryz.prog 11 false (.string ⟨#[]⟩) [.str ⟨#[]⟩] 1 16 := ⟨⟨⟨_, Tryz.underlying11, rfl⟩, by kernel_rfl⟩, rfl, rfl⟩
instance : StrC Tryz.prog 11 := ⟨Tryz.underlying11⟩
instance ty12 : TyC Tryz.prog 12 false (.int .u64 0) [.int .u64 0] 1 8 := ⟨⟨⟨_, Tryz.underlying12, rfl⟩, by kernel_rfl⟩, rfl, rfl⟩
instance : IntC Tryz.prog 12 .u64 := ⟨Tryz.underlying12⟩
instance ty13 : TyC Tryz.prog 13 true (.agg #[(.string ⟨#[]⟩), (.int .u64 0)]) [.str ⟨#[]⟩, .int .u64 0] 2 24 := ⟨⟨⟨_, Tryz.underlying13, rfl⟩, by kernel_rfl⟩, rfl, rfl⟩
instance ty14 : TyC Tryz.prog 14 true (.agg #[(.string ⟨#[]⟩), (.int .u64 0)]) [.str ⟨#[]⟩, .int .u64 0] 2 24 := ⟨⟨⟨_, Tryz.underlying14, rfl⟩, by kernel_rfl⟩, rfl, rfl⟩
instance ty15 : TyC Tryz.prog 15 false (.pointer none) [.nilp] 1 8 := ⟨⟨⟨_, Tryz.underlying15, rfl⟩, by kernel_rfl⟩, rfl, rfl⟩
instance ty16 : TyC Tryz.prog 16 false (.pointer none) [.nilp] 1 8 := ⟨⟨⟨_, Tryz.underlying16, rfl⟩, by kernel_rfl⟩, rfl, rfl⟩
instance ty17 : TyC Tryz.prog 17 false (.pointer none) [.nilp] 1 8 := ⟨⟨⟨_, Tryz.underlying17, rfl⟩, by kernel_rfl⟩, rfl, rfl⟩
instance ty18 : TyC Tryz.prog 18 true (.agg #[(.pointer none)]) [.nilp] 1 8 := ⟨⟨⟨_, Tryz.underlying18, rfl⟩, by kernel_rfl⟩, rfl, rfl⟩
instance ty19 : TyC Tryz.prog 19 true (.agg #[(.pointer none)]) [.nilp] 1 8 := ⟨⟨⟨_, Tryz.underlying19, rfl⟩, by kernel_rfl⟩, rfl, rfl⟩
instance ty21 : TyC Tryz.prog 21 false (.int .i32 0) [.int .i32 0] 1 4 := ⟨⟨⟨_, Tryz.underlying21, rfl⟩, by kernel_rfl⟩, rfl, rfl⟩
instance : IntC Tryz.prog 21 .i32 := ⟨Tryz.underlying21⟩
instance ty22 : TyC Tryz.prog 22 false (.slice none 0 0) [.nils] 1 24 := ⟨⟨⟨_, Tryz.underlying22, rfl⟩, by kernel_rfl⟩, rfl, rfl⟩
instance : SlC Tryz.prog 22 31 := ⟨Tryz.underlying22⟩
instance ty23 : TyC Tryz.prog 23 false .nilFunc [.nilf] 1 8 := ⟨⟨⟨_, Tryz.underlying23, rfl⟩, by kernel_rfl⟩, rfl, rfl⟩
instance ty24 : TyC Tryz.prog 24 false .nilFunc [.nilf] 1 8 := ⟨⟨⟨_, Tryz.underlying24, rfl⟩, by kernel_rfl⟩, rfl, rfl⟩
instance ty25 : TyC Tryz.prog 25 false .nilFunc [.nilf] 1 8 := ⟨⟨⟨_, Tryz.underlying25, rfl⟩, by kernel_rfl⟩, rfl, rfl⟩
instance ty26 : TyC Tryz.prog 26 false .nilFunc [.nilf] 1 8 := ⟨⟨⟨_, Tryz.underlying26, rfl⟩, by kernel_rfl⟩, rfl, rfl⟩
instance ty27 : TyC Tryz.prog 27 false (.slice none 0 0) [.nils] 1 24 := ⟨⟨⟨_, Tryz.underlying27, rfl⟩, by kernel_rfl⟩, rfl, rfl⟩
instance : SlC Tryz.prog 27 3 := ⟨Tryz.underlying27⟩
instance ty28 : TyC Tryz.prog 28 false .nilFunc [.nilf] 1 8 := ⟨⟨⟨_, Tryz.underlying28, rfl⟩, by kernel_rfl⟩, rfl, rfl⟩
instance ty29 : TyC Tryz.prog 29 false (.slice none 0 0) [.nils] 1 24 := ⟨⟨⟨_, Tryz.underlying29, rfl⟩, by kernel_rfl⟩, rfl, rfl⟩
instance : SlC Tryz.prog 29 57 := ⟨Tryz.underlying29⟩
instance ty30 : TyC Tryz.prog 30 true (.agg #[(.int .i64 0), (.slice none 0 0), (.int .i64 0), (.slice none 0 0)]) [.int .i64 0, .nils, .int .i64 0, .nils] 4 64 := ⟨⟨⟨_, Tryz.underlying30, rfl⟩, by kernel_rfl⟩, rfl, rfl⟩
instance ty31 : TyC Tryz.prog 31 true (.agg #[(.int .i64 0), (.slice none 0 0), (.int .i64 0), (.slice none 0 0)]) [.int .i64 0, .nils, .int .i64 0, .nils] 4 64 := ⟨⟨⟨_, Tryz.underlying31, rfl⟩, by kernel_rfl⟩, rfl, rfl⟩
instance ty32 : TyC Tryz.prog 32 false (.slice none 0 0) [.nils] 1 24 := ⟨⟨⟨_, Tryz.underlying32, rfl⟩, by kernel_rfl⟩, rfl, rfl⟩
instance : SlC Tryz.prog 32 106 := ⟨Tryz.underlying32⟩
instance ty33 : TyC Tryz.prog 33 false (.slice none 0 0) [.nils] 1 24 := ⟨⟨⟨_, Tryz.underlying33, rfl⟩, by kernel_rfl⟩, rfl, rfl⟩
instance : SlC Tryz.prog 33 35 := ⟨Tryz.underlying33⟩
instance ty34 : TyC Tryz.prog 34 true (.agg #[(.int .i64 0), (.slice none 0 0), (.string ⟨#[]⟩), (.slice none 0 0)]) [.int .i64 0, .nils, .str ⟨#[]⟩, .nils] 4 72 := ⟨⟨⟨_, Tryz.underlying34, rfl⟩, by kernel_rfl⟩, rfl, rfl⟩
instance ty35 : TyC Tryz.prog 35 true (.agg #[(.int .i64 0), (.slice none 0 0), (.string ⟨#[]⟩), (.slice none 0 0)]) [.int .i64 0, .nils, .str ⟨#[]⟩, .nils] 4 72 := ⟨⟨⟨_, Tryz.underlying35, rfl⟩, by kernel_rfl⟩, rfl, rfl⟩
instance ty36 : TyC Tryz.prog 36 false (.int .i64 0) [.int .i64 0] 1 8 := ⟨⟨⟨_, Tryz.underlying36, rfl⟩, by kernel_rfl⟩, rfl, rfl⟩
instance : IntC Tryz.prog 36 .i64 := ⟨Tryz.underlying36⟩
instance ty38 : TyC Tryz.prog 38 false .nilFunc [.nilf] 1 8 := ⟨⟨⟨_, Tryz.underlying38, rfl⟩, by kernel_rfl⟩, rfl, rfl⟩
instance ty39 : TyC Tryz.prog 39 false .nilFunc [.nilf] 1 8 := ⟨⟨⟨_, Tryz.underlying39, rfl⟩, by kernel_rfl⟩, rfl, rfl⟩
instance ty40 : TyC Tryz.prog 40 false .nilFunc [.nilf] 1 8 := ⟨⟨⟨_, Tryz.underlying40, rfl⟩, by kernel_rfl⟩, rfl, rfl⟩
instance ty41 : TyC Tryz.prog 41 false .nilFunc [.nilf] 1 8 := ⟨⟨⟨_, Tryz.underlying41, rfl⟩, by kernel_rfl⟩, rfl, rfl⟩
instance ty42 : TyC Tryz.prog 42 true (.agg #[(.int .i64 0), (.int .i64 0)]) [.int .i64 0, .int .i64 0] 2 16 := ⟨⟨⟨_, Tryz.underlying42, rfl⟩, by kernel_rfl⟩, rfl, rfl⟩
instance ty43 : TyC Tryz.prog 43 true (.agg #[(.int .i64 0), (.int .i64 0)]) [.int .i64 0, .int .i64 0] 2 16 := ⟨⟨⟨_, Tryz.underlying43, rfl⟩, by kernel_rfl⟩, rfl, rfl⟩
instance ty44 : TyC Tryz.prog 44 true (.agg #[(.slice none 0 0), (.int .i64 0)]) [.nils, .int .i64 0] 2 32 := ⟨⟨⟨_, Tryz.underlying44, rfl⟩, by kernel_rfl⟩, rfl, rfl⟩
instance ty45 : TyC Tryz.prog 45 true (.agg #[(.slice none 0 0), (.int .i64 0)]) [.nils, .int .i64 0] 2 32 := ⟨⟨⟨_, Tryz.underlying45, rfl⟩, by kernel_rfl⟩, rfl, rfl⟩
instance ty47 : TyC Tryz.prog 47 false .nilFunc [.nilf] 1 8 := ⟨⟨⟨_, Tryz.underlying47, rfl⟩, by kernel_rfl⟩, rfl, rfl⟩
instance ty48 : TyC Tryz.prog 48 false .nilFunc [.nilf] 1 8 := ⟨⟨⟨_, Tryz.underlying48, rfl⟩, by kernel_rfl⟩, rfl, rfl⟩
instance ty49 : TyC Tryz.prog 49 false .nilFunc [.nilf] 1 8 := ⟨⟨⟨_, Tryz.underlying49, rfl⟩, by kernel_rfl⟩, rfl, rfl⟩
instance ty51 : TyC Tryz.prog 51 false .nilFunc [.nilf] 1 8 := ⟨⟨⟨_, Tryz.underlying51, rfl⟩, by kernel_rfl⟩, rfl, rfl⟩
instance ty53 : TyC Tryz.prog 53 false .nilFunc [.nilf] 1 8 := ⟨⟨⟨_, Tryz.underlying53, rfl⟩, by kernel_rfl⟩, rfl, rfl⟩
instance ty55 : TyC Tryz.prog 55 false .nilFunc [.nilf] 1 8 := ⟨⟨⟨_, Tryz.underlying55, rfl⟩, by kernel_rfl⟩, rfl, rfl⟩
instance ty56 : TyC Tryz.prog 56 true (.agg #[(.int .i32 0), (.int .i64 0), (.string ⟨#[]⟩)]) [.int .i32 0, .int .i64 0, .str ⟨#[]⟩] 3 32 := ⟨⟨⟨_, Tryz.underlying56, rfl⟩, by kernel_rfl⟩, rfl, rfl⟩
instance ty57 : TyC Tryz.prog 57 true (.agg #[(.int .i32 0), (.int .i64 0), (.string ⟨#[]⟩)]) [.int .i32 0, .int .i64 0, .str ⟨#[]⟩] 3 32 := ⟨⟨⟨_, Tryz.underlying57, rfl⟩, by kernel_rfl⟩, rfl, rfl⟩
instance ty58 : TyC Tryz.prog 58 false .nilFunc [.nilf] 1 8 := ⟨⟨⟨_, Tryz.underlying58, rfl⟩, by kernel_rfl⟩, rfl, rfl⟩
instance ty59 : TyC Tryz.prog 59 false .nilFunc [.nilf] 1 8 := ⟨⟨⟨_, Tryz.underlying59, rfl⟩, by kernel_rfl⟩, rfl, rfl⟩
instance ty60 : TyC Tryz.prog 60 false .nilFunc [.nilf] 1 8 := ⟨⟨⟨_, Tryz.underlying60, rfl⟩, by kernel_rfl⟩, rfl, rfl⟩
instance ty61 : TyC Tryz.prog 61 false .nilFunc [.nilf] 1 8 := ⟨⟨⟨_, Tryz.underlying61, rfl⟩, by kernel_rfl⟩, rfl, rfl⟩
instance ty62 : TyC Tryz.prog 62 false (.slice none 0 0) [.nils] 1 24 := ⟨⟨⟨_, Tryz.underlying62, rfl⟩, by kernel_rfl⟩, rfl, rfl⟩
instance : SlC Tryz.prog 62 27 := ⟨Tryz.underlying62⟩
instance ty64 : TyC Tryz.prog 64 false .nilFunc [.nilf] 1 8 := ⟨⟨⟨_, Tryz.underlying64, rfl⟩, by kernel_rfl⟩, rfl, rfl⟩
instance ty65 : TyC Tryz.prog 65 false .nilFunc [.nilf] 1 8 := ⟨⟨⟨_, Tryz.underlying65, rfl⟩, by kernel_rfl⟩, rfl, rfl⟩
instance ty66 : TyC Tryz.prog 66 false .nilFunc [.nilf] 1 8 := ⟨⟨⟨_, Tryz.underlying66, rfl⟩, by kernel_rfl⟩, rfl, rfl⟩
instance ty67 : TyC Tryz.prog 67 false (.pointer none) [.nilp] 1 8 := ⟨⟨⟨_, Tryz.underlying67, rfl⟩, by kernel_rfl⟩, rfl, rfl⟩
instance ty68 : TyC Tryz.prog 68 true (.agg #[(.int .i64 0), (.int .i64 0)]) [.int .i64 0, .int .i64 0] 2 16 := ⟨⟨⟨_, Tryz.underlying68, rfl⟩, by kernel_rfl⟩, rfl, rfl⟩
instance ty69 : TyC Tryz.prog 69 true (.agg #[(.int .i64 0), (.int .i64 0)]) [.int .i64 0, .int .i64 0] 2 16 := ⟨⟨⟨_, Tryz.underlying69, rfl⟩, by kernel_rfl⟩, rfl, rfl⟩
instance ty71 : TyC Tryz.prog 71 false .nilFunc [.nilf] 1 8 := ⟨⟨⟨_, Tryz.underlying71, rfl⟩, by kernel_rfl⟩, rfl, rfl⟩
instance ty73 : TyC Tryz.prog 73 false .nilFunc [.nilf] 1 8 := ⟨⟨⟨_, Tryz.underlying73, rfl⟩, by kernel_rfl⟩, rfl, rfl⟩
instance ty74 : TyC Tryz.prog 74 false .nilFunc [.nilf] 1 8 := ⟨⟨⟨_, Tryz.underlying74, rfl⟩, by kernel_rfl⟩, rfl, rfl⟩
instance ty75 : TyC Tryz.prog 75 false (.slice none 0 0) [.nils] 1 24 := ⟨⟨⟨_, Tryz.underlying75, rfl⟩, by kernel_rfl⟩, rfl, rfl⟩
instance : SlC Tryz.prog 75 45 := ⟨Tryz.underlying75⟩
instance ty77 : TyC Tryz.prog 77 false .nilFunc [.nilf] 1 8 := ⟨⟨⟨_, Tryz.underlying77, rfl⟩, by kernel_rfl⟩, rfl, rfl⟩
instance ty78 : TyC Tryz.prog 78 false .nilFunc [.nilf] 1 8 := ⟨⟨⟨_, Tryz.underlying78, rfl⟩, by kernel_rfl⟩, rfl, rfl⟩
instance ty79 : TyC Tryz.prog 79 false .nilFunc [.nilf] 1 8 := ⟨⟨⟨_, Tryz.underlying79, rfl⟩, by kernel_rfl⟩, rfl, rfl⟩
instance ty80 : TyC Tryz.prog 80 false .nilFunc [.nilf] 1 8 := ⟨⟨⟨_, Tryz.underlying80, rfl⟩, by kernel_rfl⟩, rfl, rfl⟩
instance ty81 : TyC Tryz.prog 81 false (.pointer none) [.nilp] 1 8 := ⟨⟨⟨_, Tryz.underlying81, rfl⟩, by kernel_rfl⟩, rfl, rfl⟩
instance ty83 : TyC Tryz.prog 83 false .nilFunc [.nilf] 1 8 := ⟨⟨⟨_, Tryz.underlying83, rfl⟩, by kernel_rfl⟩, rfl, rfl⟩
instance ty84 : TyC Tryz.prog 84 true (.agg #[(.int .i64 0), (.slice none 0 0), (.int .i64 0), (.slice none 0 0), (.int .i64 0), (.string ⟨#[]⟩)]) [.int .i64 0, .nils, .int .i64 0, .nils, .int .i64 0, .str ⟨#[]⟩] 6 88 := ⟨⟨⟨_, Tryz.underlying84, rfl⟩, by kernel_rfl⟩, rfl, rfl⟩
instance ty85 : TyC Tryz.prog 85 true (.agg #[(.int .i64 0), (.slice none 0 0), (.int .i64 0), (.slice none 0 0), (.int .i64 0), (.string ⟨#[]⟩)]) [.int .i64 0, .nils, .int .i64 0, .nils, .int .i64 0, .str ⟨#[]⟩] 6 88 := ⟨⟨⟨_, Tryz.underlying85, rfl⟩, by kernel_rfl⟩, rfl, rfl⟩
instance ty86 : TyC Tryz.prog 86 true (.agg #[(.int .i64 0), (.slice none 0 0), (.int .i64 0), (.slice none 0 0), (.int .i64 0), (.string ⟨#[]⟩), (.slice none 0 0), (.int .i64 0), (.bool false), (.int .i64 0), (.int .i64 0), (.int .i64 0)]) [.int .i64 0, .nils, .int .i64 0, .nils, .int .i64 0, .str ⟨#[]⟩, .nils, .int .i64 0, .bool false, .int .i64 0, .int .i64 0, .int .i64 0] 12 152 := ⟨⟨⟨_, Tryz.underlying86, rfl⟩, by kernel_rfl⟩, rfl, rfl⟩
instance ty87 : TyC Tryz.prog 87 true (.agg #[(.int .i64 0), (.slice none 0 0), (.int .i64 0), (.slice none 0 0), (.int .i64 0), (.string ⟨#[]⟩), (.slice none 0 0), (.int .i64 0), (.bool false), (.int .i64 0), (.int .i64 0), (.int .i64 0)]) [.int .i64 0, .nils, .int .i64 0, .nils, .int .i64 0, .str ⟨#[]⟩, .nils, .int .i64 0, .bool false, .int .i64 0, .int .i64 0, .int .i64 0] 12 152 := ⟨⟨⟨_, Tryz.underlying87, rfl⟩, by kernel_rfl⟩, rfl, rfl⟩
instance ty88 : TyC Tryz.prog 88 false .nilFunc [.nilf] 1 8 := ⟨⟨⟨_, Tryz.underlying88, rfl⟩, by kernel_rfl⟩, rfl, rfl⟩
instance ty89 : TyC Tryz.prog 89 false .nilFunc [.nilf] 1 8 := ⟨⟨⟨_, Tryz.underlying89, rfl⟩, by kernel_rfl⟩, rfl, rfl⟩
instance ty90 : TyC Tryz.prog 90 false (.pointer none) [.nilp] 1 8 := ⟨⟨⟨_, Tryz.underlying90, rfl⟩, by kernel_rfl⟩, rfl, rfl⟩
instance ty91 : TyC Tryz.prog 91 false .nilFunc [.nilf] 1 8 := ⟨⟨⟨_, Tryz.underlying91, rfl⟩, by kernel_rfl⟩, rfl, rfl⟩
instance ty92 : TyC Tryz.prog 92 false (.int .u64 0) [.int .u64 0] 1 8 := ⟨⟨⟨_, Tryz.underlying92, rfl⟩, by kernel_rfl⟩, rfl, rfl⟩
instance : IntC Tryz.prog 92 .u64 := ⟨Tryz.underlying92⟩
instance ty94 : TyC Tryz.prog 94 false .nilFunc [.nilf] 1 8 := ⟨⟨⟨_, Tryz.underlying94, rfl⟩, by kernel_rfl⟩, rfl, rfl⟩
instance ty95 : TyC Tryz.prog 95 false .nilFunc [.nilf] 1 8 := ⟨⟨⟨_, Tryz.underlying95, rfl⟩, by kernel_rfl⟩, rfl, rfl⟩
instance ty96 : TyC Tryz.prog 96 false .nilFunc [.nilf] 1 8 := ⟨⟨⟨_, Tryz.underlying96, rfl⟩, by kernel_rfl⟩, rfl, rfl⟩
instance ty97 : TyC Tryz.prog 97 false .nilFunc [.nilf] 1 8 := ⟨⟨⟨_, Tryz.underlying97, rfl⟩, by kernel_rfl⟩, rfl, rfl⟩
instance ty98 : TyC Tryz.prog 98 false .nilFunc [.nilf] 1 8 := ⟨⟨⟨_, Tryz.underlying98, rfl⟩, by kernel_rfl⟩, rfl, rfl⟩
instance ty99 : TyC Tryz.prog 99 false .nilFunc [.nilf] 1 8 := ⟨⟨⟨_, Tryz.underlying99, rfl⟩, by kernel_rfl⟩, rfl, rfl⟩
instance ty100 : TyC Tryz.prog 100 false .nilFunc [.nilf] 1 8 := ⟨⟨⟨_, Tryz.underlying100, rfl⟩, by kernel_rfl⟩, rfl, rfl⟩
instance ty101 : TyC Tryz.prog 101 false .nilFunc [.nilf] 1 8 := ⟨⟨⟨_, Tryz.underlying101, rfl⟩, by kernel_rfl⟩, rfl, rfl⟩
instance ty102 : TyC Tryz.prog 102 false .nilFunc [.nilf] 1 8 := ⟨⟨⟨_, Tryz.underlying102, rfl⟩, by kernel_rfl⟩, rfl, rfl⟩
instance ty103 : TyC Tryz.prog 103 false .nilFunc [.nilf] 1 8 := ⟨⟨⟨_, Tryz.underlying103, rfl⟩, by kernel_rfl⟩, rfl, rfl⟩
instance ty104 : TyC Tryz.prog 104 false .nilFunc [.nilf] 1 8 := ⟨⟨⟨_, Tryz.underlying104, rfl⟩, by kernel_rfl⟩, rfl, rfl⟩
instance ty105 : TyC Tryz.prog 105 true (.agg #[(.string ⟨#[]⟩), (.string ⟨#[]⟩)]) [.str ⟨#[]⟩, .str ⟨#[]⟩] 2 32 := ⟨⟨⟨_, Tryz.underlying105, rfl⟩, by kernel_rfl⟩, rfl, rfl⟩
instance ty106 : TyC Tryz.prog 106 true (.agg #[(.string ⟨#[]⟩), (.string ⟨#[]⟩)]) [.str ⟨#[]⟩, .str ⟨#[]⟩] 2 32 := ⟨⟨⟨_, Tryz.underlying106, rfl⟩, by kernel_rfl⟩, rfl, rfl⟩
instance ty107 : TyC Tryz.prog 107 false .nilFunc [.nilf] 1 8 := ⟨⟨⟨_, Tryz.underlying107, rfl⟩, by kernel_rfl⟩, rfl, rfl⟩
instance ty108 : TyC Tryz.prog 108 false .nilFunc [.nilf] 1 8 := ⟨⟨⟨_, Tryz.underlying108, rfl⟩, by kernel_rfl⟩, rfl, rfl⟩
instance ty109 : TyC Tryz.prog 109 false .nilFunc [.nilf] 1 8 := ⟨⟨⟨_, Tryz.underlying109, rfl⟩, by kernel_rfl⟩, rfl, rfl⟩
instance ty110 : TyC Tryz.prog 110 false .nilFunc [.nilf] 1 8 := ⟨⟨⟨_, Tryz.underlying110, rfl⟩, by kernel_rfl⟩, rfl, rfl⟩
instance ty111 : TyC Tryz.prog 111 false .nilFunc [.nilf] 1 8 := ⟨⟨⟨_, Tryz.underlying111, rfl⟩, by kernel_rfl⟩, rfl, rfl⟩
instance ty112 : TyC Tryz.prog 112 false (.slice none 0 0) [.nils] 1 24 := ⟨⟨⟨_, Tryz.underlying112, rfl⟩, by kernel_rfl⟩, rfl, rfl⟩
instance : SlC Tryz.prog 112 21 := ⟨Tryz.underlying112⟩
instance ty113 : TyC Tryz.prog 113 false .nilFunc [.nilf] 1 8 := ⟨⟨⟨_, Tryz.underlying113, rfl⟩, by kernel_rfl⟩, rfl, rfl⟩
instance ty114 : TyC Tryz.prog 114 false .nilFunc [.nilf] 1 8 := ⟨⟨⟨_, Tryz.underlying114, rfl⟩, by kernel_rfl⟩, rfl, rfl⟩
instance ty115 : TyC Tryz.prog 115 false (.slice none 0 0) [.nils] 1 24 := ⟨⟨⟨_, Tryz.underlying115, rfl⟩, by kernel_rfl⟩, rfl, rfl⟩
instance : SlC Tryz.prog 115 9 := ⟨Tryz.underlying115⟩
instance ty116 : TyC Tryz.prog 116 true (.agg #[(.slice none 0 0), (.int .i64 0)]) [.nils, .int .i64 0] 2 32 := ⟨⟨⟨_, Tryz.underlying116, rfl⟩, by kernel_rfl⟩, rfl, rfl⟩
instance ty117 : TyC Tryz.prog 117 true (.agg #[(.slice none 0 0), (.int .i64 0)]) [.nils, .int .i64 0] 2 32 := ⟨⟨⟨_, Tryz.underlying117, rfl⟩, by kernel_rfl⟩, rfl, rfl⟩
instance ty118 : TyC Tryz.prog 118 false .nilFunc [.nilf] 1 8 := ⟨⟨⟨_, Tryz.underlying118, rfl⟩, by kernel_rfl⟩, rfl, rfl⟩
instance ty119 : TyC Tryz.prog 119 false .nilFunc [.nilf] 1 8 := ⟨⟨⟨_, Tryz.underlying119, rfl⟩, by kernel_rfl⟩, rfl, rfl⟩
instance ty120 : TyC Tryz.prog 120 false .nilFunc [.nilf] 1 8 := ⟨⟨⟨_, Tryz.underlying120, rfl⟩, by kernel_rfl⟩, rfl, rfl⟩
instance ty121 : TyC Tryz.prog 121 false (.int .u32 0) [.int .u32 0] 1 4 := ⟨⟨⟨_, Tryz.underlying121, rfl⟩, by kernel_rfl⟩, rfl, rfl⟩
instance : IntC Tryz.prog 121 .u32 := ⟨Tryz.underlying121⟩
instance ty123 : TyC Tryz.prog 123 false .nilFunc [.nilf] 1 8 := ⟨⟨⟨_, Tryz.underlying123, rfl⟩, by kernel_rfl⟩, rfl, rfl⟩
instance ty124 : TyC Tryz.prog 124 false (.int .u64 0) [.int .u64 0] 1 8 := ⟨⟨⟨_, Tryz.underlying124, rfl⟩, by kernel_rfl⟩, rfl, rfl⟩
instance : IntC Tryz.prog 124 .u64 := ⟨Tryz.underlying124⟩
instance ty126 : TyC Tryz.prog 126 false .nilFunc [.nilf] 1 8 := ⟨⟨⟨_, Tryz.underlying126, rfl⟩, by kernel_rfl⟩, rfl, rfl⟩
instance ty127 : TyC Tryz.prog 127 false .nilFunc [.nilf] 1 8 := ⟨⟨⟨_, Tryz.underlying127, rfl⟩, by kernel_rfl⟩, rfl, rfl⟩
instance ty128 : TyC Tryz.prog 128 false .nilFunc [.nilf] 1 8 := ⟨⟨⟨_, Tryz.underlying128, rfl⟩, by kernel_rfl⟩, rfl, rfl⟩
instance ty129 : TyC Tryz.prog 129 false .nilFunc [.nilf] 1 8 := ⟨⟨⟨_, Tryz.underlying129, rfl⟩, by kernel_rfl⟩, rfl, rfl⟩
instance ty130 : TyC Tryz.prog 130 false .nilFunc [.nilf] 1 8 := ⟨⟨⟨_, Tryz.underlying130, rfl⟩, by kernel_rfl⟩, rfl, rfl⟩
instance ty132 : TyC Tryz.prog 132 false .nilFunc [.nilf] 1 8 := ⟨⟨⟨_, Tryz.underlying132, rfl⟩, by kernel_rfl⟩, rfl, rfl⟩
instance ty133 : TyC Tryz.prog 133 false .nilFunc [.nilf] 1 8 := ⟨⟨⟨_, Tryz.underlying133, rfl⟩, by kernel_rfl⟩, rfl, rfl⟩
instance ty134 : TyC Tryz.prog 134 false .nilFunc [.nilf] 1 8 := ⟨⟨⟨_, Tryz.underlying134, rfl⟩, by kernel_rfl⟩, rfl, rfl⟩
instance ty135 : TyC Tryz.prog 135 false .nilFunc [.nilf] 1 8 := ⟨⟨⟨_, Tryz.underlying135, rfl⟩, by kernel_rfl⟩, rfl, rfl⟩
instance ty136 : TyC Tryz.prog 136 true (.agg #[(.slice none 0 0), (.int .i64 0), (.slice none 0 0), (.int .i64 0), (.slice none 0 0), (.int .i64 0), (.slice none 0 0), (.int .i64 0), (.slice none 0 0), (.int .i64 0), (.slice none 0 0), (.int .i64 0), (.slice none 0 0), (.int .i64 0), (.slice none 0 0), (.int .i64 0), (.slice none 0 0), (.int .i64 0), (.slice none 0 0), (.int .i64 0), (.slice none 0 0), (.int .i64 0), (.slice none 0 0), (.int .i64 0), (.slice none 0 0), (.int .i64 0), (.slice none 0 0), (.int .i64 0), (.slice none 0 0), (.int .i64 0), (.slice none 0 0), (.int .i64 0), (.slice none 0 0), (.int .i64 0)]) [.nils, .int .i64 0, .nils, .int .i64 0, .nils, .int .i64 0, .nils, .int .i64 0, .nils, .int .i64 0, .nils, .int .i64 0, .nils, .int .i64 0, .nils, .int .i64 0, .nils, .int .i64 0, .nils, .int .i64 0, .nils, .int .i64 0, .nils, .int .i64 0, .nils, .int .i64 0, .nils, .int .i64 0, .nils, .int .i64 0, .nils, .int .i64 0, .nils, .int .i64 0] 34 544 := ⟨⟨⟨_, Tryz.underlying136, rfl⟩, by kernel_rfl⟩, rfl, rfl⟩
instance ty137 : TyC Tryz.prog 137 false .nilFunc [.nilf] 1 8 := ⟨⟨⟨_, Tryz.underlying137, rfl⟩, by kernel_rfl⟩, rfl, rfl⟩
instance ty138 : TyC Tryz.prog 138 false .nilFunc [.nilf] 1 8 := ⟨⟨⟨_, Tryz.underlying138, rfl⟩, by kernel_rfl⟩, rfl, rfl⟩
instance ty139 : TyC Tryz.prog 139 false .nilFunc [.nilf] 1 8 := ⟨⟨⟨_, Tryz.underlying139, rfl⟩, by kernel_rfl⟩, rfl, rfl⟩
instance ty140 : TyC Tryz.prog 140 false .nilFunc [.nilf] 1 8 := ⟨⟨⟨_, Tryz.underlying140, rfl⟩, by kernel_rfl⟩, rfl, rfl⟩
instance ty141 : TyC Tryz.prog 141 false .nilFunc [.nilf] 1 8 := ⟨⟨⟨_, Tryz.underlying141, rfl⟩, by kernel_rfl⟩, rfl, rfl⟩
instance ty142 : TyC Tryz.prog 142 false .nilFunc [.nilf] 1 8 := ⟨⟨⟨_, Tryz.underlying142, rfl⟩, by kernel_rfl⟩, rfl, rfl⟩
instance ty143 : TyC Tryz.prog 143 false .nilFunc [.nilf] 1 8 := ⟨⟨⟨_, Tryz.underlying143, rfl⟩, by kernel_rfl⟩, rfl, rfl⟩
instance ty144 : TyC Tryz.prog 144 false .nilFunc [.nilf] 1 8 := ⟨⟨⟨_, Tryz.underlying144, rfl⟩, by kernel_rfl⟩, rfl, rfl⟩
instance ty145 : TyC Tryz.prog 145 false .nilFunc [.nilf] 1 8 := ⟨⟨⟨_, Tryz.underlying145, rfl⟩, by kernel_rfl⟩, rfl, rfl⟩
instance ty146 : TyC Tryz.prog 146 false .nilFunc [.nilf] 1 8 := ⟨⟨⟨_, Tryz.underlying146, rfl⟩, by kernel_rfl⟩, rfl, rfl⟩
instance ty147 : TyC Tryz.prog 147 false .nilFunc [.nilf] 1 8 := ⟨⟨⟨_, Tryz.underlying147, rfl⟩, by kernel_rfl⟩, rfl, rfl⟩
instance ty148 : TyC Tryz.prog 148 false .nilFunc [.nilf] 1 8 := ⟨⟨⟨_, Tryz.underlying148, rfl⟩, by kernel_rfl⟩, rfl, rfl⟩
instance ty149 : TyC Tryz.prog 149 false .nilFunc [.nilf] 1 8 := ⟨⟨⟨_, Tryz.underlying149, rfl⟩, by kernel_rfl⟩, rfl, rfl⟩
instance ty150 : TyC Tryz.prog 150 false .nilFunc [.nilf] 1 8 := ⟨⟨⟨_, Tryz.underlying150, rfl⟩, by kernel_rfl⟩, rfl, rfl⟩
instance ty151 : TyC Tryz.prog 151 false .nilFunc [.nilf] 1 8 := ⟨⟨⟨_, Tryz.underlying151, rfl⟩, by kernel_rfl⟩, rfl, rfl⟩
instance ty152 : TyC Tryz.prog 152 false .nilFunc [.nilf] 1 8 := ⟨⟨⟨_, Tryz.underlying152, rfl⟩, by kernel_rfl⟩, rfl, rfl⟩
instance ty153 : TyC Tryz.prog 153 false .nilFunc [.nilf] 1 8 := ⟨⟨⟨_, Tryz.underlying153, rfl⟩, by kernel_rfl⟩, rfl, rfl⟩
instance ty154 : TyC Tryz.prog 154 false .nilFunc [.nilf] 1 8 := ⟨⟨⟨_, Tryz.underlying154, rfl⟩, by kernel_rfl⟩, rfl, rfl⟩
instance ty155 : TyC Tryz.prog 155 false .nilFunc [.nilf] 1 8 := ⟨⟨⟨_, Tryz.underlying155, rfl⟩, by kernel_rfl⟩, rfl, rfl⟩
instance ty156 : TyC Tryz.prog 156 false (.pointer none) [.nilp] 1 8 := ⟨⟨⟨_, Tryz.underlying156, rfl⟩, by kernel_rfl⟩, rfl, rfl⟩
instance ty158 : TyC Tryz.prog 158 false .nilFunc [.nilf] 1 8 := ⟨⟨⟨_, Tryz.underlying158, rfl⟩, by kernel_rfl⟩, rfl, rfl⟩
instance ty159 : TyC Tryz.prog 159 false .nilFunc [.nilf] 1 8 := ⟨⟨⟨_, Tryz.underlying159, rfl⟩, by kernel_rfl⟩, rfl, rfl⟩
instance ty161 : TyC Tryz.prog 161 false .nilFunc [.nilf] 1 8 := ⟨⟨⟨_, Tryz.underlying161, rfl⟩, by kernel_rfl⟩, rfl, rfl⟩
instance ty162 : TyC Tryz.prog 162 false .nilFunc [.nilf] 1 8 := ⟨⟨⟨_, Tryz.underlying162, rfl⟩, by kernel_rfl⟩, rfl, rfl⟩
instance ty163 : TyC Tryz.prog 163 false .nilFunc [.nilf] 1 8 := ⟨⟨⟨_, Tryz.underlying163, rfl⟩, by kernel_rfl⟩, rfl, rfl⟩
instance ty165 : TyC Tryz.prog 165 false .nilFunc [.nilf] 1 8 := ⟨⟨⟨_, Tryz.underlying165, rfl⟩, by kernel_rfl⟩, rfl, rfl⟩
instance ty166 : TyC Tryz.prog 166 false .nilFunc [.nilf] 1 8 := ⟨⟨⟨_, Tryz.underlying166, rfl⟩, by kernel_rfl⟩, rfl, rfl⟩
instance ty167 : TyC Tryz.prog 167 false .nilFunc [.nilf] 1 8 := ⟨⟨⟨_, Tryz.underlying167, rfl⟩, by kernel_rfl⟩, rfl, rfl⟩
instance ty169 : TyC Tryz.prog 169 false .nilFunc [.nilf] 1 8 := ⟨⟨⟨_, Tryz.underlying169, rfl⟩, by kernel_rfl⟩, rfl, rfl⟩
instance ty170 : TyC Tryz.prog 170 false .nilFunc [.nilf] 1 8 := ⟨⟨⟨_, Tryz.underlying170, rfl⟩, by kernel_rfl⟩, rfl, rfl⟩
instance ty171 : TyC Tryz.prog 171 false .nilFunc [.nilf] 1 8 := ⟨⟨⟨_, Tryz.underlying171, rfl⟩, by kernel_rfl⟩, rfl, rfl⟩
instance ty172 : TyC Tryz.prog 172 false .nilFunc [.nilf] 1 8 := ⟨⟨⟨_, Tryz.underlying172, rfl⟩, by kernel_rfl⟩, rfl, rfl⟩
instance ty173 : TyC Tryz.prog 173 false .nilFunc [.nilf] 1 8 := ⟨⟨⟨_, Tryz.underlying173, rfl⟩, by kernel_rfl⟩, rfl, rfl⟩
instance ty174 : TyC Tryz.prog 174 false .nilFunc [.nilf] 1 8 := ⟨⟨⟨_, Tryz.underlying174, rfl⟩, by kernel_rfl⟩, rfl, rfl⟩
instance ty175 : TyC Tryz.prog 175 false .nilFunc [.nilf] 1 8 := ⟨⟨⟨_, Tryz.underlying175, rfl⟩, by kernel_rfl⟩, rfl, rfl⟩
instance ty176 : TyC Tryz.prog 176 false .nilFunc [.nilf] 1 8 := ⟨⟨⟨_, Tryz.underlying176, rfl⟩, by kernel_rfl⟩, rfl, rfl⟩
instance ty177 : TyC Tryz.prog 177 false .nilFunc [.nilf] 1 8 := ⟨⟨⟨_, Tryz.underlying177, rfl⟩, by kernel_rfl⟩, rfl, rfl⟩
instance ty178 : TyC Tryz.prog 178 false .nilFunc [.nilf] 1 8 := ⟨⟨⟨_, Tryz.underlying178, rfl⟩, by kernel_rfl⟩, rfl, rfl⟩
instance ty179 : TyC Tryz.prog 179 false .nilFunc [.nilf] 1 8 := ⟨⟨⟨_, Tryz.underlying179, rfl⟩, by kernel_rfl⟩, rfl, rfl⟩
instance ty180 : TyC Tryz.prog 180 false .nilFunc [.nilf] 1 8 := ⟨⟨⟨_, Tryz.underlying180, rfl⟩, by kernel_rfl⟩, rfl, rfl⟩
instance ty181 : TyC Tryz.prog 181 false (.pointer none) [.nilp] 1 8 := ⟨⟨⟨_, Tryz.underlying181, rfl⟩, by kernel_rfl⟩, rfl, rfl⟩
instance ty182 : TyC Tryz.prog 182 false (.slice none 0 0) [.nils] 1 24 := ⟨⟨⟨_, Tryz.underlying182, rfl⟩, by kernel_rfl⟩, rfl, rfl⟩
instance : SlC Tryz.prog 182 5 := ⟨Tryz.underlying182⟩
instance ty183 : TyC Tryz.prog 183 true (.agg #[(.pointer none), (.slice none 0 0)]) [.nilp, .nils] 2 32 := ⟨⟨⟨_, Tryz.underlying183, rfl⟩, by kernel_rfl⟩, rfl, rfl⟩
instance ty184 : TyC Tryz.prog 184 true (.agg #[(.pointer none), (.slice none 0 0)]) [.nilp, .nils] 2 32 := ⟨⟨⟨_, Tryz.underlying184, rfl⟩, by kernel_rfl⟩, rfl, rfl⟩
instance ty186 : TyC Tryz.prog 186 false .nilFunc [.nilf] 1 8 := ⟨⟨⟨_, Tryz.underlying186, rfl⟩, by kernel_rfl⟩, rfl, rfl⟩
instance ty190 : TyC Tryz.prog 190 false .nilFunc [.nilf] 1 8 := ⟨⟨⟨_, Tryz.underlying190, rfl⟩, by kernel_rfl⟩, rfl, rfl⟩
instance ty191 : TyC Tryz.prog 191 false .nilFunc [.nilf] 1 8 := ⟨⟨⟨_, Tryz.underlying191, rfl⟩, by kernel_rfl⟩, rfl, rfl⟩
instance ty192 : TyC Tryz.prog 192 false .nilFunc [.nilf] 1 8 := ⟨⟨⟨_, Tryz.underlying192, rfl⟩, by kernel_rfl⟩, rfl, rfl⟩
instance ty193 : TyC Tryz.prog 193 false .nilFunc [.nilf] 1 8 := ⟨⟨⟨_, Tryz.underlying193, rfl⟩, by kernel_rfl⟩, rfl, rfl⟩
instance ty194 : TyC Tryz.prog 194 false .nilFunc [.nilf] 1 8 := ⟨⟨⟨_, Tryz.underlying194, rfl⟩, by kernel_rfl⟩, rfl, rfl⟩
instance ty195 : TyC Tryz.prog 195 false .nilFunc [.nilf] 1 8 := ⟨⟨⟨_, Tryz.underlying195, rfl⟩, by kernel_rfl⟩, rfl, rfl⟩
instance ty196 : TyC Tryz.prog 196 false .nilFunc [.nilf] 1 8 := ⟨⟨⟨_, Tryz.underlying196, rfl⟩, by kernel_rfl⟩, rfl, rfl⟩
instance ty197 : TyC Tryz.prog 197 false .nilFunc [.nilf] 1 8 := ⟨⟨⟨_, Tryz.underlying197, rfl⟩, by kernel_rfl⟩, rfl, rfl⟩
instance ty198 : TyC Tryz.prog 198 false .nilFunc [.nilf] 1 8 := ⟨⟨⟨_, Tryz.underlying198, rfl⟩, by kernel_rfl⟩, rfl, rfl⟩
instance ty199 : TyC Tryz.prog 199 false .nilFunc [.nilf] 1 8 := ⟨⟨⟨_, Tryz.underlying199, rfl⟩, by kernel_rfl⟩, rfl, rfl⟩
instance ty200 : TyC Tryz.prog 200 false .nilFunc [.nilf] 1 8 := ⟨⟨⟨_, Tryz.underlying200, rfl⟩, by kernel_rfl⟩, rfl, rfl⟩
instance ty201 : TyC Tryz.prog 201 false (.pointer none) [.nilp] 1 8 := ⟨⟨⟨_, Tryz.underlying201, rfl⟩, by kernel_rfl⟩, rfl, rfl⟩
instance ty202 : TyC Tryz.prog 202 false .nilFunc [.nilf] 1 8 := ⟨⟨⟨_, Tryz.underlying202, rfl⟩, by kernel_rfl⟩, rfl, rfl⟩
instance ty204 : TyC Tryz.prog 204 true (.agg #[(.int .u8 0), (.int .u8 0)]) [.int .u8 0, .int .u8 0] 2 2 := ⟨⟨⟨_, Tryz.underlying204, rfl⟩, by kernel_rfl⟩, rfl, rfl⟩
instance ty205 : TyC Tryz.prog 205 true (.agg #[(.int .u8 0), (.int .u8 0)]) [.int .u8 0, .int .u8 0] 2 2 := ⟨⟨⟨_, Tryz.underlying205, rfl⟩, by kernel_rfl⟩, rfl, rfl⟩
instance ty206 : TyC Tryz.prog 206 true (.agg #[(.int .u8 0), (.int .u8 0), (.int .u8 0), (.int .u8 0), (.int .u8 0), (.int .u8 0), (.int .u8 0), (.int .u8 0), (.int .u8 0), (.int .u8 0), (.int .u8 0), (.int .u8 0), (.int .u8 0), (.int .u8 0), (.int .u8 0), (.int .u8 0), (.int .u8 0), (.int .u8 0), (.int .u8 0), (.int .u8 0), (.int .u8 0), (.int .u8 0), (.int .u8 0), (.int .u8 0), (.int .u8 0), (.int .u8 0), (.int .u8 0), (.int .u8 0), (.int .u8 0), (.int .u8 0), (.int .u8 0), (.int .u8 0)]) [.int .u8 0, .int .u8 0, .int .u8 0, .int .u8 0, .int .u8 0, .int .u8 0, .int .u8 0, .int .u8 0, .int .u8 0, .int .u8 0, .int .u8 0, .int .u8 0, .int .u8 0, .int .u8 0, .int .u8 0, .int .u8 0, .int .u8 0, .int .u8 0, .int .u8 0, .int .u8 0, .int .u8 0, .int .u8 0, .int .u8 0, .int .u8 0, .int .u8 0, .int .u8 0, .int .u8 0, .int .u8 0, .int .u8 0, .int .u8 0, .int .u8 0, .int .u8 0] 32 32 := ⟨⟨⟨_, Tryz.underlying206, rfl⟩, by kernel_rfl⟩, rfl, rfl⟩
instance ty207 : TyC Tryz.prog 207 false .nilFunc [.nilf] 1 8 := ⟨⟨⟨_, Tryz.underlying207, rfl⟩, by kernel_rfl⟩, rfl, rfl⟩
instance ty208 : TyC Tryz.prog 208 false .nilFunc [.nilf] 1 8 := ⟨⟨⟨_, Tryz.underlying208, rfl⟩, by kernel_rfl⟩, rfl, rfl⟩
instance ty212 : TyC Tryz.prog 212 false .nilFunc [.nilf] 1 8 := ⟨⟨⟨_, Tryz.underlying212, rfl⟩, by kernel_rfl⟩, rfl, rfl⟩
instance ty213 : TyC Tryz.prog 213 false .nilFunc [.nilf] 1 8 := ⟨⟨⟨_, Tryz.underlying213, rfl⟩, by kernel_rfl⟩, rfl, rfl⟩
instance ty214 : TyC Tryz.prog 214 false (.pointer none) [.nilp] 1 8 := ⟨⟨⟨_, Tryz.underlying214, rfl⟩, by kernel_rfl⟩, rfl, rfl⟩
instance ty215 : TyC Tryz.prog 215 false .nilFunc [.nilf] 1 8 := ⟨⟨⟨_, Tryz.underlying215, rfl⟩, by kernel_rfl⟩, rfl, rfl⟩
instance ty217 : TyC Tryz.prog 217 false .nilFunc [.nilf] 1 8 := ⟨⟨⟨_, Tryz.underlying217, rfl⟩, by kernel_rfl⟩, rfl, rfl⟩
instance ty218 : TyC Tryz.prog 218 false .nilFunc [.nilf] 1 8 := ⟨⟨⟨_, Tryz.underlying218, rfl⟩, by kernel_rfl⟩, rfl, rfl⟩
instance ty219 : TyC Tryz.prog 219 false .nilFunc [.nilf] 1 8 := ⟨⟨⟨_, Tryz.underlying219, rfl⟩, by kernel_rfl⟩, rfl, rfl⟩
instance ty220 : TyC Tryz.prog 220 false .nilFunc [.nilf] 1 8 := ⟨⟨⟨_, Tryz.underlying220, rfl⟩, by kernel_rfl⟩, rfl, rfl⟩
instance ty221 : TyC Tryz.prog 221 false .nilFunc [.nilf] 1 8 := ⟨⟨⟨_, Tryz.underlying221, rfl⟩, by kernel_rfl⟩, rfl, rfl⟩
instance ty222 : TyC Tryz.prog 222 false .nilFunc [.nilf] 1 8 := ⟨⟨⟨_, Tryz.underlying222, rfl⟩, by kernel_rfl⟩, rfl, rfl⟩
instance ty223 : TyC Tryz.prog 223 false .nilFunc [.nilf] 1 8 := ⟨⟨⟨_, Tryz.underlying223, rfl⟩, by kernel_rfl⟩, rfl, rfl⟩
instance ty224 : TyC Tryz.prog 224 true (.agg #[(.pointer none), (.pointer none), (.pointer none), (.string ⟨#[]⟩)]) [.nilp, .nilp, .nilp, .str ⟨#[]⟩] 4 40 := ⟨⟨⟨_, Tryz.underlying224, rfl⟩, by kernel_rfl⟩, rfl, rfl⟩
instance ty225 : TyC Tryz.prog 225 true (.agg #[(.pointer none), (.pointer none), (.pointer none), (.string ⟨#[]⟩)]) [.nilp, .nilp, .nilp, .str ⟨#[]⟩] 4 40 := ⟨⟨⟨_, Tryz.underlying225, rfl⟩, by kernel_rfl⟩, rfl, rfl⟩
instance ty226 : TyC Tryz.prog 226 true (.agg #[]) [] 0 0 := ⟨⟨⟨_, Tryz.underlying226, rfl⟩, by kernel_rfl⟩, rfl, rfl⟩
instance ty227 : TyC Tryz.prog 227 true (.agg #[]) [] 0 0 := ⟨⟨⟨_, Tryz.underlying227, rfl⟩, by kernel_rfl⟩, rfl, rfl⟩
instance ty228 : TyC Tryz.prog 228 true (.agg #[]) [] 0 0 := ⟨⟨⟨_, Tryz.underlying228, rfl⟩, by kernel_rfl⟩, rfl, rfl⟩
instance ty229 : TyC Tryz.prog 229 false (.int .u8 0) [.int .u8 0] 1 1 := ⟨⟨⟨_, Tryz.underlying229, rfl⟩, by kernel_rfl⟩, rfl, rfl⟩
instance : IntC Tryz.prog 229 .u8 := ⟨Tryz.underlying229⟩
instance ty230 : TyC Tryz.prog 230 false (.int .u8 0) [.int .u8 0] 1 1 := ⟨⟨⟨_, Tryz.underlying230, rfl⟩, by kernel_rfl⟩, rfl, rfl⟩
instance : IntC Tryz.prog 230 .u8 := ⟨Tryz.underlying230⟩
instance ty231 : TyC Tryz.prog 231 false .nilFunc [.nilf] 1 8 := ⟨⟨⟨_, Tryz.underlying231, rfl⟩, by kernel_rfl⟩, rfl, rfl⟩
instance ty232 : TyC Tryz.prog 232 false (.int .i32 0) [.int .i32 0] 1 4 := ⟨⟨⟨_, Tryz.underlying232, rfl⟩, by kernel_rfl⟩, rfl, rfl⟩
instance : IntC Tryz.prog 232 .i32 := ⟨Tryz.underlying232⟩
instance ty233 : TyC Tryz.prog 233 false (.int .i32 0) [.int .i32 0] 1 4 := ⟨⟨⟨_, Tryz.underlying233, rfl⟩, by kernel_rfl⟩, rfl, rfl⟩
instance : IntC Tryz.prog 233 .i32 := ⟨Tryz.underlying233⟩
instance ty234 : TyC Tryz.prog 234 true (.agg #[(.int .u64 0), (.int .u64 0), (.int .u32 0), (.int .u8 0), (.int .u8 0), (.int .u8 0), (.int .u8 0), .nilFunc, (.pointer none), (.int .i32 0), (.int .i32 0)]) [.int .u64 0, .int .u64 0, .int .u32 0, .int .u8 0, .int .u8 0, .int .u8 0, .int .u8 0, .nilf, .nilp, .int .i32 0, .int .i32 0] 11 48 := ⟨⟨⟨_, Tryz.underlying234, rfl⟩, by kernel_rfl⟩, rfl, rfl⟩
instance ty235 : TyC Tryz.prog 235 true (.agg #[(.int .u64 0), (.int .u64 0), (.int .u32 0), (.int .u8 0), (.int .u8 0), (.int .u8 0), (.int .u8 0), .nilFunc, (.pointer none), (.int .i32 0), (.int .i32 0)]) [.int .u64 0, .int .u64 0, .int .u32 0, .int .u8 0, .int .u8 0, .int .u8 0, .int .u8 0, .nilf, .nilp, .int .i32 0, .int .i32 0] 11 48 := ⟨⟨⟨_, Tryz.underlying235, rfl⟩, by kernel_rfl⟩, rfl, rfl⟩
abbrev TB_int64 : Nat := 2
abbrev TB_int : Nat := 3
abbrev TB_bool : Nat := 4
abbrev TB_uint8 : Nat := 5
abbrev TB_string : Nat := 9
abbrev TB_uintptr : Nat := 12
abbrev TB_int32 : Nat := 21
abbrev TS_Line : Nat := 22
abbrev TS_int : Nat := 27
abbrev TS_Cell : Nat := 29
abbrev TS_Attr : Nat := 32
abbrev TS_Node : Nat := 33
abbrev TS_Point : Nat := 75
abbrev TB_uint : Nat := 92
abbrev TS_int32 : Nat := 112
abbrev TS_string : Nat := 115
abbrev TB_uint32 : Nat := 121
abbrev TB_uint64 : Nat := 124
abbrev TS_uint8 : Nat := 182
instance : FldC Tryz.prog 7 0 0 := ⟨Fld.mk' (off := 0) Tryz.underlying7 rfl rfl ty2.h rfl⟩
instance : FldVC Tryz.prog 7 0 0 false 1 := ⟨FldV.mk' (off := 0) (agg := false) (sz := 1) Tryz.underlying7 rfl rfl ty2.h⟩
instance : FldC Tryz.prog 7 1 1 := ⟨Fld.mk' (off := 1) Tryz.underlying7 rfl rfl ty3.h rfl⟩
instance : FldVC Tryz.prog 7 1 1 false 1 := ⟨FldV.mk' (off := 1) (agg := false) (sz := 1) Tryz.underlying7 rfl rfl ty3.h⟩
instance : FldC Tryz.prog 7 2 2 := ⟨Fld.mk' (off := 2) Tryz.underlying7 rfl rfl ty4.h rfl⟩
instance : FldVC Tryz.prog 7 2 2 false 1 := ⟨FldV.mk' (off := 2) (agg := false) (sz := 1) Tryz.underlying7 rfl rfl ty4.h⟩
instance : FldC Tryz.prog 7 3 3 := ⟨Fld.mk' (off := 3) Tryz.underlying7 rfl rfl ty6.h rfl⟩
instance : FldVC Tryz.prog 7 3 3 false 1 := ⟨FldV.mk' (off := 3) (agg := false) (sz := 1) Tryz.underlying7 rfl rfl ty6.h⟩
instance : FldsC Tryz.prog 7 [(0, 1), (1, 1), (2, 1), (3, 1)] := ⟨⟨_, Tryz.underlying7, by kernel_rfl⟩⟩
instance : FldC Tryz.prog 8 0 0 := ⟨Fld.mk' (off := 0) Tryz.underlying8 rfl rfl ty2.h rfl⟩
instance : FldVC Tryz.prog 8 0 0 false 1 := ⟨FldV.mk' (off := 0) (agg := false) (sz := 1) Tryz.underlying8 rfl rfl ty2.h⟩
instance : FldC Tryz.prog 8 1 1 := ⟨Fld.mk' (off := 1) Tryz.underlying8 rfl rfl ty3.h rfl⟩
instance : FldVC Tryz.prog 8 1 1 false 1 := ⟨FldV.mk' (off := 1) (agg := false) (sz := 1) Tryz.underlying8 rfl rfl ty3.h⟩
instance : FldC Tryz.prog 8 2 2 := ⟨Fld.mk' (off := 2) Tryz.underlying8 rfl rfl ty4.h rfl⟩
instance : FldVC Tryz.prog 8 2 2 false 1 := ⟨FldV.mk' (off := 2) (agg := false) (sz := 1) Tryz.underlying8 rfl rfl ty4.h⟩
instance : FldC Tryz.prog 8 3 3 := ⟨Fld.mk' (off := 3) Tryz.underlying8 rfl rfl ty6.h rfl⟩
instance : FldVC Tryz.prog 8 3 3 false 1 := ⟨FldV.mk' (off := 3) (agg := false) (sz := 1) Tryz.underlying8 rfl rfl ty6.h⟩
instance : FldsC Tryz.prog 8 [(0, 1), (1, 1), (2, 1), (3, 1)] := ⟨⟨_, Tryz.underlying8, by kernel_rfl⟩⟩
instance : FldC Tryz.prog 13 0 0 := ⟨Fld.mk' (off := 0) Tryz.underlying13 rfl rfl ty9.h rfl⟩
instance : FldVC Tryz.prog 13 0 0 false 1 := ⟨FldV.mk' (off := 0) (agg := false) (sz := 1) Tryz.underlying13 rfl rfl ty9.h⟩
instance : FldC Tryz.prog 13 1 1 := ⟨Fld.mk' (off := 1) Tryz.underlying13 rfl rfl ty12.h rfl⟩
instance : FldVC Tryz.prog 13 1 1 false 1 := ⟨FldV.mk' (off := 1) (agg := false) (sz := 1) Tryz.underlying13 rfl rfl ty12.h⟩
instance : FldsC Tryz.prog 13 [(0, 1), (1, 1)] := ⟨⟨_, Tryz.underlying13, by kernel_rfl⟩⟩
instance : FldC Tryz.prog 14 0 0 := ⟨Fld.mk' (off := 0) Tryz.underlying14 rfl rfl ty9.h rfl⟩
instance : FldVC Tryz.prog 14 0 0 false 1 := ⟨FldV.mk' (off := 0) (agg := false) (sz := 1) Tryz.underlying14 rfl rfl ty9.h⟩
instance : FldC Tryz.prog 14 1 1 := ⟨Fld.mk' (off := 1) Tryz.underlying14 rfl rfl ty12.h rfl⟩
instance : FldVC Tryz.prog 14 1 1 false 1 := ⟨FldV.mk' (off := 1) (agg := false) (sz := 1) Tryz.underlying14 rfl rfl ty12.h⟩
instance : FldsC Tryz.prog 14 [(0, 1), (1, 1)] := ⟨⟨_, Tryz.underlying14, by kernel_rfl⟩⟩
instance : FldC Tryz.prog 18 0 0 := ⟨Fld.mk' (off := 0) Tryz.underlying18 rfl rfl ty17.h rfl⟩
instance : FldVC Tryz.prog 18 0 0 false 1 := ⟨FldV.mk' (off := 0) (agg := false) (sz := 1) Tryz.underlying18 rfl rfl ty17.h⟩
instance : FldsC Tryz.prog 18 [(0, 1)] := ⟨⟨_, Tryz.underlying18, by kernel_rfl⟩⟩
instance : FldC Tryz.prog 19 0 0 := ⟨Fld.mk' (off := 0) Tryz.underlying19 rfl rfl ty17.h rfl⟩
instance : FldVC Tryz.prog 19 0 0 false 1 := ⟨FldV.mk' (off := 0) (agg := false) (sz := 1) Tryz.underlying19 rfl rfl ty17.h⟩
instance : FldsC Tryz.prog 19 [(0, 1)] := ⟨⟨_, Tryz.underlying19, by kernel_rfl⟩⟩
instance : FldC Tryz.prog 30 0 0 := ⟨Fld.mk' (off := 0) Tryz.underlying30 rfl rfl ty3.h rfl⟩
instance : FldVC Tryz.prog 30 0 0 false 1 := ⟨FldV.mk' (off := 0) (agg := false) (sz := 1) Tryz.underlying30 rfl rfl ty3.h⟩
instance : FldC Tryz.prog 30 1 1 := ⟨Fld.mk' (off := 1) Tryz.underlying30 rfl rfl ty27.h rfl⟩
instance : FldVC Tryz.prog 30 1 1 false 1 := ⟨FldV.mk' (off := 1) (agg := false) (sz := 1) Tryz.underlying30 rfl rfl ty27.h⟩
instance : FldC Tryz.prog 30 2 2 := ⟨Fld.mk' (off := 2) Tryz.underlying30 rfl rfl ty3.h rfl⟩
instance : FldVC Tryz.prog 30 2 2 false 1 := ⟨FldV.mk' (off := 2) (agg := false) (sz := 1) Tryz.underlying30 rfl rfl ty3.h⟩
instance : FldC Tryz.prog 30 3 3 := ⟨Fld.mk' (off := 3) Tryz.underlying30 rfl rfl ty29.h rfl⟩
instance : FldVC Tryz.prog 30 3 3 false 1 := ⟨FldV.mk' (off := 3) (agg := false) (sz := 1) Tryz.underlying30 rfl rfl ty29.h⟩
instance : FldsC Tryz.prog 30 [(0, 1), (1, 1), (2, 1), (3, 1)] := ⟨⟨_, Tryz.underlying30, by kernel_rfl⟩⟩
instance : FldC Tryz.prog 31 0 0 := ⟨Fld.mk' (off := 0) Tryz.underlying31 rfl rfl ty3.h rfl⟩
instance : FldVC Tryz.prog 31 0 0 false 1 := ⟨FldV.mk' (off := 0) (agg := false) (sz := 1) Tryz.underlying31 rfl rfl ty3.h⟩
instance : FldC Tryz.prog 31 1 1 := ⟨Fld.mk' (off := 1) Tryz.underlying31 rfl rfl ty27.h rfl⟩
instance : FldVC Tryz.prog 31 1 1 false 1 := ⟨FldV.mk' (off := 1) (agg := false) (sz := 1) Tryz.underlying31 rfl rfl ty27.h⟩
instance : FldC Tryz.prog 31 2 2 := ⟨Fld.mk' (off := 2) Tryz.underlying31 rfl rfl ty3.h rfl⟩
instance : FldVC Tryz.prog 31 2 2 false 1 := ⟨FldV.mk' (off := 2) (agg := false) (sz := 1) Tryz.underlying31 rfl rfl ty3.h⟩
instance : FldC Tryz.prog 31 3 3 := ⟨Fld.mk' (off := 3) Tryz.underlying31 rfl rfl ty29.h rfl⟩
instance : FldVC Tryz.prog 31 3 3 false 1 := ⟨FldV.mk' (off := 3) (agg := false) (sz := 1) Tryz.underlying31 rfl rfl ty29.h⟩
instance : FldsC Tryz.prog 31 [(0, 1), (1, 1), (2, 1), (3, 1)] := ⟨⟨_, Tryz.underlying31, by kernel_rfl⟩⟩
instance : FldC Tryz.prog 34 0 0 := ⟨Fld.mk' (off := 0) Tryz.underlying34 rfl rfl ty3.h rfl⟩
instance : FldVC Tryz.prog 34 0 0 false 1 := ⟨FldV.mk' (off := 0) (agg := false) (sz := 1) Tryz.underlying34 rfl rfl ty3.h⟩
instance : FldC Tryz.prog 34 1 1 := ⟨Fld.mk' (off := 1) Tryz.underlying34 rfl rfl ty32.h rfl⟩
instance : FldVC Tryz.prog 34 1 1 false 1 := ⟨FldV.mk' (off := 1) (agg := false) (sz := 1) Tryz.underlying34 rfl rfl ty32.h⟩
instance : FldC Tryz.prog 34 2 2 := ⟨Fld.mk' (off := 2) Tryz.underlying34 rfl rfl ty9.h rfl⟩
instance : FldVC Tryz.prog 34 2 2 false 1 := ⟨FldV.mk' (off := 2) (agg := false) (sz := 1) Tryz.underlying34 rfl rfl ty9.h⟩
instance : FldC Tryz.prog 34 3 3 := ⟨Fld.mk' (off := 3) Tryz.underlying34 rfl rfl ty33.h rfl⟩
instance : FldVC Tryz.prog 34 3 3 false 1 := ⟨FldV.mk' (off := 3) (agg := false) (sz := 1) Tryz.underlying34 rfl rfl ty33.h⟩
instance : FldsC Tryz.prog 34 [(0, 1), (1, 1), (2, 1), (3, 1)] := ⟨⟨_, Tryz.underlying34, by kernel_rfl⟩⟩
instance : FldC Tryz.prog 35 0 0 := ⟨Fld.mk' (off := 0) Tryz.underlying35 rfl rfl ty3.h rfl⟩
instance : FldVC Tryz.prog 35 0 0 false 1 := ⟨FldV.mk' (off := 0) (agg := false) (sz := 1) Tryz.underlying35 rfl rfl ty3.h⟩
instance : FldC Tryz.prog 35 1 1 := ⟨Fld.mk' (off := 1) Tryz.underlying35 rfl rfl ty32.h rfl⟩
instance : FldVC Tryz.prog 35 1 1 false 1 := ⟨FldV.mk' (off := 1) (agg := false) (sz := 1) Tryz.underlying35 rfl rfl ty32.h⟩
instance : FldC Tryz.prog 35 2 2 := ⟨Fld.mk' (off := 2) Tryz.underlying35 rfl rfl ty9.h rfl⟩
instance : FldVC Tryz.prog 35 2 2 false 1 := ⟨FldV.mk' (off := 2) (agg := false) (sz := 1) Tryz.underlying35 rfl rfl ty9.h⟩
instance : FldC Tryz.prog 35 3 3 := ⟨Fld.mk' (off := 3) Tryz.underlying35 rfl rfl ty33.h rfl⟩
instance : FldVC Tryz.prog 35 3 3 false 1 := ⟨FldV.mk' (off := 3) (agg := false) (sz := 1) Tryz.underlying35 rfl rfl ty33.h⟩
instance : FldsC Tryz.prog 35 [(0, 1), (1, 1), (2, 1), (3, 1)] := ⟨⟨_, Tryz.underlying35, by kernel_rfl⟩⟩
instance : FldC Tryz.prog 42 0 0 := ⟨Fld.mk' (off := 0) Tryz.underlying42 rfl rfl ty3.h rfl⟩
instance : FldVC Tryz.prog 42 0 0 false 1 := ⟨FldV.mk' (off := 0) (agg := false) (sz := 1) Tryz.underlying42 rfl rfl ty3.h⟩
instance : FldC Tryz.prog 42 1 1 := ⟨Fld.mk' (off := 1) Tryz.underlying42 rfl rfl ty3.h rfl⟩
instance : FldVC Tryz.prog 42 1 1 false 1 := ⟨FldV.mk' (off := 1) (agg := false) (sz := 1) Tryz.underlying42 rfl rfl ty3.h⟩
instance : FldsC Tryz.prog 42 [(0, 1), (1, 1)] := ⟨⟨_, Tryz.underlying42, by kernel_rfl⟩⟩
instance : FldC Tryz.prog 43 0 0 := ⟨Fld.mk' (off := 0) Tryz.underlying43 rfl rfl ty3.h rfl⟩
instance : FldVC Tryz.prog 43 0 0 false 1 := ⟨FldV.mk' (off := 0) (agg := false) (sz := 1) Tryz.underlying43 rfl rfl ty3.h⟩
instance : FldC Tryz.prog 43 1 1 := ⟨Fld.mk' (off := 1) Tryz.underlying43 rfl rfl ty3.h rfl⟩
instance : FldVC Tryz.prog 43 1 1 false 1 := ⟨FldV.mk' (off := 1) (agg := false) (sz := 1) Tryz.underlying43 rfl rfl ty3.h⟩
instance : FldsC Tryz.prog 43 [(0, 1), (1, 1)] := ⟨⟨_, Tryz.underlying43, by kernel_rfl⟩⟩
instance : FldC Tryz.prog 44 0 0 := ⟨Fld.mk' (off := 0) Tryz.underlying44 rfl rfl ty27.h rfl⟩
instance : FldVC Tryz.prog 44 0 0 false 1 := ⟨FldV.mk' (off := 0) (agg := false) (sz := 1) Tryz.underlying44 rfl rfl ty27.h⟩
instance : FldC Tryz.prog 44 1 1 := ⟨Fld.mk' (off := 1) Tryz.underlying44 rfl rfl ty3.h rfl⟩
instance : FldVC Tryz.prog 44 1 1 false 1 := ⟨FldV.mk' (off := 1) (agg := false) (sz := 1) Tryz.underlying44 rfl rfl ty3.h⟩
instance : FldsC Tryz.prog 44 [(0, 1), (1, 1)] := ⟨⟨_, Tryz.underlying44, by kernel_rfl⟩⟩
instance : FldC Tryz.prog 45 0 0 := ⟨Fld.mk' (off := 0) Tryz.underlying45 rfl rfl ty27.h rfl⟩
instance : FldVC Tryz.prog 45 0 0 false 1 := ⟨FldV.mk' (off := 0) (agg := false) (sz := 1) Tryz.underlying45 rfl rfl ty27.h⟩
instance : FldC Tryz.prog 45 1 1 := ⟨Fld.mk' (off := 1) Tryz.underlying45 rfl rfl ty3.h rfl⟩
instance : FldVC Tryz.prog 45 1 1 false 1 := ⟨FldV.mk' (off := 1) (agg := false) (sz := 1) Tryz.underlying45 rfl rfl ty3.h⟩
instance : FldsC Tryz.prog 45 [(0, 1), (1, 1)] := ⟨⟨_, Tryz.underlying45, by kernel_rfl⟩⟩
instance : FldC Tryz.prog 56 0 0 := ⟨Fld.mk' (off := 0) Tryz.underlying56 rfl rfl ty21.h rfl⟩
instance : FldVC Tryz.prog 56 0 0 false 1 := ⟨FldV.mk' (off := 0) (agg := false) (sz := 1) Tryz.underlying56 rfl rfl ty21.h⟩
instance : FldC Tryz.prog 56 1 1 := ⟨Fld.mk' (off := 1) Tryz.underlying56 rfl rfl ty3.h rfl⟩
instance : FldVC Tryz.prog 56 1 1 false 1 := ⟨FldV.mk' (off := 1) (agg := false) (sz := 1) Tryz.underlying56 rfl rfl ty3.h⟩
instance : FldC Tryz.prog 56 2 2 := ⟨Fld.mk' (off := 2) Tryz.underlying56 rfl rfl ty9.h rfl⟩
instance : FldVC Tryz.prog 56 2 2 false 1 := ⟨FldV.mk' (off := 2) (agg := false) (sz := 1) Tryz.underlying56 rfl rfl ty9.h⟩
instance : FldsC Tryz.prog 56 [(0, 1), (1, 1), (2, 1)] := ⟨⟨_, Tryz.underlying56, by kernel_rfl⟩⟩
instance : FldC Tryz.prog 57 0 0 := ⟨Fld.mk' (off := 0) Tryz.underlying57 rfl rfl ty21.h rfl⟩
instance : FldVC Tryz.prog 57 0 0 false 1 := ⟨FldV.mk' (off := 0) (agg := false) (sz := 1) Tryz.underlying57 rfl rfl ty21.h⟩
instance : FldC Tryz.prog 57 1 1 := ⟨Fld.mk' (off := 1) Tryz.underlying57 rfl rfl ty3.h rfl⟩
instance : FldVC Tryz.prog 57 1 1 false 1 := ⟨FldV.mk' (off := 1) (agg := false) (sz := 1) Tryz.underlying57 rfl rfl ty3.h⟩
instance : FldC Tryz.prog 57 2 2 := ⟨Fld.mk' (off := 2) Tryz.underlying57 rfl rfl ty9.h rfl⟩
instance : FldVC Tryz.prog 57 2 2 false 1 := ⟨FldV.mk' (off := 2) (agg := false) (sz := 1) Tryz.underlying57 rfl rfl ty9.h⟩
instance : FldsC Tryz.prog 57 [(0, 1), (1, 1), (2, 1)] := ⟨⟨_, Tryz.underlying57, by kernel_rfl⟩⟩
instance : FldC Tryz.prog 68 0 0 := ⟨Fld.mk' (off := 0) Tryz.underlying68 rfl rfl ty3.h rfl⟩
instance : FldVC Tryz.prog 68 0 0 false 1 := ⟨FldV.mk' (off := 0) (agg := false) (sz := 1) Tryz.underlying68 rfl rfl ty3.h⟩
instance : FldC Tryz.prog 68 1 1 := ⟨Fld.mk' (off := 1) Tryz.underlying68 rfl rfl ty3.h rfl⟩
instance : FldVC Tryz.prog 68 1 1 false 1 := ⟨FldV.mk' (off := 1) (agg := false) (sz := 1) Tryz.underlying68 rfl rfl ty3.h⟩
instance : FldsC Tryz.prog 68 [(0, 1), (1, 1)] := ⟨⟨_, Tryz.underlying68, by kernel_rfl⟩⟩
instance : FldC Tryz.prog 69 0 0 := ⟨Fld.mk' (off := 0) Tryz.underlying69 rfl rfl ty3.h rfl⟩
instance : FldVC Tryz.prog 69 0 0 false 1 := ⟨FldV.mk' (off := 0) (agg := false) (sz := 1) Tryz.underlying69 rfl rfl ty3.h⟩
instance : FldC Tryz.prog 69 1 1 := ⟨Fld.mk' (off := 1) Tryz.underlying69 rfl rfl ty3.h rfl⟩
instance : FldVC Tryz.prog 69 1 1 false 1 := ⟨FldV.mk' (off := 1) (agg := false) (sz := 1) Tryz.underlying69 rfl rfl ty3.h⟩
instance : FldsC Tryz.prog 69 [(0, 1), (1, 1)] := ⟨⟨_, Tryz.underlying69, by kernel_rfl⟩⟩
instance : FldC Tryz.prog 84 0 0 := ⟨Fld.mk' (off := 0) Tryz.underlying84 rfl rfl ty31.h rfl⟩
instance : FldVC Tryz.prog 84 0 0 true 4 := ⟨FldV.mk' (off := 0) (agg := true) (sz := 4) Tryz.underlying84 rfl rfl ty31.h⟩
instance : FldC Tryz.prog 84 1 4 := ⟨Fld.mk' (off := 4) Tryz.underlying84 rfl rfl ty3.h rfl⟩
instance : FldVC Tryz.prog 84 1 4 false 1 := ⟨FldV.mk' (off := 4) (agg := false) (sz := 1) Tryz.underlying84 rfl rfl ty3.h⟩
instance : FldC Tryz.prog 84 2 5 := ⟨Fld.mk' (off := 5) Tryz.underlying84 rfl rfl ty9.h rfl⟩
instance : FldVC Tryz.prog 84 2 5 false 1 := ⟨FldV.mk' (off := 5) (agg := false) (sz := 1) Tryz.underlying84 rfl rfl ty9.h⟩
instance : FldsC Tryz.prog 84 [(0, 4), (4, 1), (5, 1)] := ⟨⟨_, Tryz.underlying84, by kernel_rfl⟩⟩
instance : FldC Tryz.prog 85 0 0 := ⟨Fld.mk' (off := 0) Tryz.underlying85 rfl rfl ty31.h rfl⟩
instance : FldVC Tryz.prog 85 0 0 true 4 := ⟨FldV.mk' (off := 0) (agg := true) (sz := 4) Tryz.underlying85 rfl rfl ty31.h⟩
instance : FldC Tryz.prog 85 1 4 := ⟨Fld.mk' (off := 4) Tryz.underlying85 rfl rfl ty3.h rfl⟩
instance : FldVC Tryz.prog 85 1 4 false 1 := ⟨FldV.mk' (off := 4) (agg := false) (sz := 1) Tryz.underlying85 rfl rfl ty3.h⟩
instance : FldC Tryz.prog 85 2 5 := ⟨Fld.mk' (off := 5) Tryz.underlying85 rfl rfl ty9.h rfl⟩
instance : FldVC Tryz.prog 85 2 5 false 1 := ⟨FldV.mk' (off := 5) (agg := false) (sz := 1) Tryz.underlying85 rfl rfl ty9.h⟩
instance : FldsC Tryz.prog 85 [(0, 4), (4, 1), (5, 1)] := ⟨⟨_, Tryz.underlying85, by kernel_rfl⟩⟩
instance : FldC Tryz.prog 86 0 0 := ⟨Fld.mk' (off := 0) Tryz.underlying86 rfl rfl ty85.h rfl⟩
instance : FldVC Tryz.prog 86 0 0 true 6 := ⟨FldV.mk' (off := 0) (agg := true) (sz := 6) Tryz.underlying86 rfl rfl ty85.h⟩
instance : FldC Tryz.prog 86 1 6 := ⟨Fld.mk' (off := 6) Tryz.underlying86 rfl rfl ty22.h rfl⟩
instance : FldVC Tryz.prog 86 1 6 false 1 := ⟨FldV.mk' (off := 6) (agg := false) (sz := 1) Tryz.underlying86 rfl rfl ty22.h⟩
instance : FldC Tryz.prog 86 2 7 := ⟨Fld.mk' (off := 7) Tryz.underlying86 rfl rfl ty3.h rfl⟩
instance : FldVC Tryz.prog 86 2 7 false 1 := ⟨FldV.mk' (off := 7) (agg := false) (sz := 1) Tryz.underlying86 rfl rfl ty3.h⟩
instance : FldC Tryz.prog 86 3 8 := ⟨Fld.mk' (off := 8) Tryz.underlying86 rfl rfl ty4.h rfl⟩
instance : FldVC Tryz.prog 86 3 8 false 1 := ⟨FldV.mk' (off := 8) (agg := false) (sz := 1) Tryz.underlying86 rfl rfl ty4.h⟩
instance : FldC Tryz.prog 86 4 9 := ⟨Fld.mk' (off := 9) Tryz.underlying86 rfl rfl ty3.h rfl⟩
instance : FldVC Tryz.prog 86 4 9 false 1 := ⟨FldV.mk' (off := 9) (agg := false) (sz := 1) Tryz.underlying86 rfl rfl ty3.h⟩
instance : FldC Tryz.prog 86 5 10 := ⟨Fld.mk' (off := 10) Tryz.underlying86 rfl rfl ty43.h rfl⟩
instance : FldVC Tryz.prog 86 5 10 true 2 := ⟨FldV.mk' (off := 10) (agg := true) (sz := 2) Tryz.underlying86 rfl rfl ty43.h⟩
instance : FldsC Tryz.prog 86 [(0, 6), (6, 1), (7, 1), (8, 1), (9, 1), (10, 2)] := ⟨⟨_, Tryz.underlying86, by kernel_rfl⟩⟩
instance : FldC Tryz.prog 87 0 0 := ⟨Fld.mk' (off := 0) Tryz.underlying87 rfl rfl ty85.h rfl⟩
instance : FldVC Tryz.prog 87 0 0 true 6 := ⟨FldV.mk' (off := 0) (agg := true) (sz := 6) Tryz.underlying87 rfl rfl ty85.h⟩
instance : FldC Tryz.prog 87 1 6 := ⟨Fld.mk' (off := 6) Tryz.underlying87 rfl rfl ty22.h rfl⟩
instance : FldVC Tryz.prog 87 1 6 false 1 := ⟨FldV.mk' (off := 6) (agg := false) (sz := 1) Tryz.underlying87 rfl rfl ty22.h⟩
instance : FldC Tryz.prog 87 2 7 := ⟨Fld.mk' (off := 7) Tryz.underlying87 rfl rfl ty3.h rfl⟩
instance : FldVC Tryz.prog 87 2 7 false 1 := ⟨FldV.mk' (off := 7) (agg := false) (sz := 1) Tryz.underlying87 rfl rfl ty3.h⟩
instance : FldC Tryz.prog 87 3 8 := ⟨Fld.mk' (off := 8) Tryz.underlying87 rfl rfl ty4.h rfl⟩
instance : FldVC Tryz.prog 87 3 8 false 1 := ⟨FldV.mk' (off := 8) (agg := false) (sz := 1) Tryz.underlying87 rfl rfl ty4.h⟩
instance : FldC Tryz.prog 87 4 9 := ⟨Fld.mk' (off := 9) Tryz.underlying87 rfl rfl ty3.h rfl⟩
instance : FldVC Tryz.prog 87 4 9 false 1 := ⟨FldV.mk' (off := 9) (agg := false) (sz := 1) Tryz.underlying87 rfl rfl ty3.h⟩
instance : FldC Tryz.prog 87 5 10 := ⟨Fld.mk' (off := 10) Tryz.underlying87 rfl rfl ty43.h rfl⟩
instance : FldVC Tryz.prog 87 5 10 true 2 := ⟨FldV.mk' (off := 10) (agg := true) (sz := 2) Tryz.underlying87 rfl rfl ty43.h⟩
instance : FldsC Tryz.prog 87 [(0, 6), (6, 1), (7, 1), (8, 1), (9, 1), (10, 2)] := ⟨⟨_, Tryz.underlying87, by kernel_rfl⟩⟩
instance : FldC Tryz.prog 105 0 0 := ⟨Fld.mk' (off := 0) Tryz.underlying105 rfl rfl ty9.h rfl⟩
instance : FldVC Tryz.prog 105 0 0 false 1 := ⟨FldV.mk' (off := 0) (agg := false) (sz := 1) Tryz.underlying105 rfl rfl ty9.h⟩
instance : FldC Tryz.prog 105 1 1 := ⟨Fld.mk' (off := 1) Tryz.underlying105 rfl rfl ty9.h rfl⟩
instance : FldVC Tryz.prog 105 1 1 false 1 := ⟨FldV.mk' (off := 1) (agg := false) (sz := 1) Tryz.underlying105 rfl rfl ty9.h⟩
instance : FldsC Tryz.prog 105 [(0, 1), (1, 1)] := ⟨⟨_, Tryz.underlying105, by kernel_rfl⟩⟩
instance : FldC Tryz.prog 106 0 0 := ⟨Fld.mk' (off := 0) Tryz.underlying106 rfl rfl ty9.h rfl⟩
instance : FldVC Tryz.prog 106 0 0 false 1 := ⟨FldV.mk' (off := 0) (agg := false) (sz := 1) Tryz.underlying106 rfl rfl ty9.h⟩
instance : FldC Tryz.prog 106 1 1 := ⟨Fld.mk' (off := 1) Tryz.underlying106 rfl rfl ty9.h rfl⟩
instance : FldVC Tryz.prog 106 1 1 false 1 := ⟨FldV.mk' (off := 1) (agg := false) (sz := 1) Tryz.underlying106 rfl rfl ty9.h⟩
instance : FldsC Tryz.prog 106 [(0, 1), (1, 1)] := ⟨⟨_, Tryz.underlying106, by kernel_rfl⟩⟩
instance : FldC Tryz.prog 116 0 0 := ⟨Fld.mk' (off := 0) Tryz.underlying116 rfl rfl ty115.h rfl⟩
instance : FldVC Tryz.prog 116 0 0 false 1 := ⟨FldV.mk' (off := 0) (agg := false) (sz := 1) Tryz.underlying116 rfl rfl ty115.h⟩
instance : FldC Tryz.prog 116 1 1 := ⟨Fld.mk' (off := 1) Tryz.underlying116 rfl rfl ty3.h rfl⟩
instance : FldVC Tryz.prog 116 1 1 false 1 := ⟨FldV.mk' (off := 1) (agg := false) (sz := 1) Tryz.underlying116 rfl rfl ty3.h⟩
instance : FldsC Tryz.prog 116 [(0, 1), (1, 1)] := ⟨⟨_, Tryz.underlying116, by kernel_rfl⟩⟩
instance : FldC Tryz.prog 117 0 0 := ⟨Fld.mk' (off := 0) Tryz.underlying117 rfl rfl ty115.h rfl⟩
instance : FldVC Tryz.prog 117 0 0 false 1 := ⟨FldV.mk' (off := 0) (agg := false) (sz := 1) Tryz.underlying117 rfl rfl ty115.h⟩
instance : FldC Tryz.prog 117 1 1 := ⟨Fld.mk' (off := 1) Tryz.underlying117 rfl rfl ty3.h rfl⟩
instance : FldVC Tryz.prog 117 1 1 false 1 := ⟨FldV.mk' (off := 1) (agg := false) (sz := 1) Tryz.underlying117 rfl rfl ty3.h⟩
instance : FldsC Tryz.prog 117 [(0, 1), (1, 1)] := ⟨⟨_, Tryz.underlying117, by kernel_rfl⟩⟩
instance : FldC Tryz.prog 183 0 0 := ⟨Fld.mk' (off := 0) Tryz.underlying183 rfl rfl ty181.h rfl⟩
instance : FldVC Tryz.prog 183 0 0 false 1 := ⟨FldV.mk' (off := 0) (agg := false) (sz := 1) Tryz.underlying183 rfl rfl ty181.h⟩
instance : FldC Tryz.prog 183 1 1 := ⟨Fld.mk' (off := 1) Tryz.underlying183 rfl rfl ty182.h rfl⟩
instance : FldVC Tryz.prog 183 1 1 false 1 := ⟨FldV.mk' (off := 1) (agg := false) (sz := 1) Tryz.underlying183 rfl rfl ty182.h⟩
instance : FldsC Tryz.prog 183 [(0, 1), (1, 1)] := ⟨⟨_, Tryz.underlying183, by kernel_rfl⟩⟩
instance : FldC Tryz.prog 184 0 0 := ⟨Fld.mk' (off := 0) Tryz.underlying184 rfl rfl ty181.h rfl⟩
instance : FldVC Tryz.prog 184 0 0 false 1 := ⟨FldV.mk' (off := 0) (agg := false) (sz := 1) Tryz.underlying184 rfl rfl ty181.h⟩
instance : FldC Tryz.prog 184 1 1 := ⟨Fld.mk' (off := 1) Tryz.underlying184 rfl rfl ty182.h rfl⟩
instance : FldVC Tryz.prog 184 1 1 false 1 := ⟨FldV.mk' (off := 1) (agg := false) (sz := 1) Tryz.underlying184 rfl rfl ty182.h⟩
instance : FldsC Tryz.prog 184 [(0, 1), (1, 1)] := ⟨⟨_, Tryz.underlying184, by kernel_rfl⟩⟩
instance : FldC Tryz.prog 204 0 0 := ⟨Fld.mk' (off := 0) Tryz.underlying204 rfl rfl ty5.h rfl⟩
instance : FldVC Tryz.prog 204 0 0 false 1 := ⟨FldV.mk' (off := 0) (agg := false) (sz := 1) Tryz.underlying204 rfl rfl ty5.h⟩
instance : FldC Tryz.prog 204 1 1 := ⟨Fld.mk' (off := 1) Tryz.underlying204 rfl rfl ty5.h rfl⟩
instance : FldVC Tryz.prog 204 1 1 false 1 := ⟨FldV.mk' (off := 1) (agg := false) (sz := 1) Tryz.underlying204 rfl rfl ty5.h⟩
instance : FldsC Tryz.prog 204 [(0, 1), (1, 1)] := ⟨⟨_, Tryz.underlying204, by kernel_rfl⟩⟩
instance : FldC Tryz.prog 205 0 0 := ⟨Fld.mk' (off := 0) Tryz.underlying205 rfl rfl ty5.h rfl⟩
instance : FldVC Tryz.prog 205 0 0 false 1 := ⟨FldV.mk' (off := 0) (agg := false) (sz := 1) Tryz.underlying205 rfl rfl ty5.h⟩
instance : FldC Tryz.prog 205 1 1 := ⟨Fld.mk' (off := 1) Tryz.underlying205 rfl rfl ty5.h rfl⟩
instance : FldVC Tryz.prog 205 1 1 false 1 := ⟨FldV.mk' (off := 1) (agg := false) (sz := 1) Tryz.underlying205 rfl rfl ty5.h⟩
instance : FldsC Tryz.prog 205 [(0, 1), (1, 1)] := ⟨⟨_, Tryz.underlying205, by kernel_rfl⟩⟩
instance : FldC Tryz.prog 224 0 0 := ⟨Fld.mk' (off := 0) Tryz.underlying224 rfl rfl ty17.h rfl⟩
instance : FldVC Tryz.prog 224 0 0 false 1 := ⟨FldV.mk' (off := 0) (agg := false) (sz := 1) Tryz.underlying224 rfl rfl ty17.h⟩
instance : FldC Tryz.prog 224 1 1 := ⟨Fld.mk' (off := 1) Tryz.underlying224 rfl rfl ty17.h rfl⟩
instance : FldVC Tryz.prog 224 1 1 false 1 := ⟨FldV.mk' (off := 1) (agg := false) (sz := 1) Tryz.underlying224 rfl rfl ty17.h⟩
instance : FldC Tryz.prog 224 2 2 := ⟨Fld.mk' (off := 2) Tryz.underlying224 rfl rfl ty17.h rfl⟩
instance : FldVC Tryz.prog 224 2 2 false 1 := ⟨FldV.mk' (off := 2) (agg := false) (sz := 1) Tryz.underlying224 rfl rfl ty17.h⟩
instance : FldC Tryz.prog 224 3 3 := ⟨Fld.mk' (off := 3) Tryz.underlying224 rfl rfl ty9.h rfl⟩
instance : FldVC Tryz.prog 224 3 3 false 1 := ⟨FldV.mk' (off := 3) (agg := false) (sz := 1) Tryz.underlying224 rfl rfl ty9.h⟩
instance : FldsC Tryz.prog 224 [(0, 1), (1, 1), (2, 1), (3, 1)] := ⟨⟨_, Tryz.underlying224, by kernel_rfl⟩⟩
instance : FldC Tryz.prog 225 0 0 := ⟨Fld.mk' (off := 0) Tryz.underlying225 rfl rfl ty17.h rfl⟩
instance : FldVC Tryz.prog 225 0 0 false 1 := ⟨FldV.mk' (off := 0) (agg := false) (sz := 1) Tryz.underlying225 rfl rfl ty17.h⟩
instance : FldC Tryz.prog 225 1 1 := ⟨Fld.mk' (off := 1) Tryz.underlying225 rfl rfl ty17.h rfl⟩
instance : FldVC Tryz.prog 225 1 1 false 1 := ⟨FldV.mk' (off := 1) (agg := false) (sz := 1) Tryz.underlying225 rfl rfl ty17.h⟩
instance : FldC Tryz.prog 225 2 2 := ⟨Fld.mk' (off := 2) Tryz.underlying225 rfl rfl ty17.h rfl⟩
instance : FldVC Tryz.prog 225 2 2 false 1 := ⟨FldV.mk' (off := 2) (agg := false) (sz := 1) Tryz.underlying225 rfl rfl ty17.h⟩
instance : FldC Tryz.prog 225 3 3 := ⟨Fld.mk' (off := 3) Tryz.underlying225 rfl rfl ty9.h rfl⟩
instance : FldVC Tryz.prog 225 3 3 false 1 := ⟨FldV.mk' (off := 3) (agg := false) (sz := 1) Tryz.underlying225 rfl rfl ty9.h⟩
instance : FldsC Tryz.prog 225 [(0, 1), (1, 1), (2, 1), (3, 1)] := ⟨⟨_, Tryz.underlying225, by kernel_rfl⟩⟩
instance : FldVC Tryz.prog 227 0 0 true 0 := ⟨FldV.mk' (off := 0) (agg := true) (sz := 0) Tryz.underlying227 rfl rfl ty226.h⟩
instance : FldsC Tryz.prog 227 [(0, 0)] := ⟨⟨_, Tryz.underlying227, by kernel_rfl⟩⟩
instance : FldVC Tryz.prog 228 0 0 true 0 := ⟨FldV.mk' (off := 0) (agg := true) (sz := 0) Tryz.underlying228 rfl rfl ty226.h⟩
instance : FldsC Tryz.prog 228 [(0, 0)] := ⟨⟨_, Tryz.underlying228, by kernel_rfl⟩⟩
instance : FldC Tryz.prog 234 0 0 := ⟨Fld.mk' (off := 0) Tryz.underlying234 rfl rfl ty12.h rfl⟩
instance : FldVC Tryz.prog 234 0 0 false 1 := ⟨FldV.mk' (off := 0) (agg := false) (sz := 1) Tryz.underlying234 rfl rfl ty12.h⟩
instance : FldC Tryz.prog 234 1 1 := ⟨Fld.mk' (off := 1) Tryz.underlying234 rfl rfl ty12.h rfl⟩
instance : FldVC Tryz.prog 234 1 1 false 1 := ⟨FldV.mk' (off := 1) (agg := false) (sz := 1) Tryz.underlying234 rfl rfl ty12.h⟩
instance : FldC Tryz.prog 234 2 2 := ⟨Fld.mk' (off := 2) Tryz.underlying234 rfl rfl ty121.h rfl⟩
instance : FldVC Tryz.prog 234 2 2 false 1 := ⟨FldV.mk' (off := 2) (agg := false) (sz := 1) Tryz.underlying234 rfl rfl ty121.h⟩
instance : FldC Tryz.prog 234 3 3 := ⟨Fld.mk' (off := 3) Tryz.underlying234 rfl rfl ty229.h rfl⟩
instance : FldVC Tryz.prog 234 3 3 false 1 := ⟨FldV.mk' (off := 3) (agg := false) (sz := 1) Tryz.underlying234 rfl rfl ty229.h⟩
instance : FldC Tryz.prog 234 4 4 := ⟨Fld.mk' (off := 4) Tryz.underlying234 rfl rfl ty5.h rfl⟩
instance : FldVC Tryz.prog 234 4 4 false 1 := ⟨FldV.mk' (off := 4) (agg := false) (sz := 1) Tryz.underlying234 rfl rfl ty5.h⟩
instance : FldC Tryz.prog 234 5 5 := ⟨Fld.mk' (off := 5) Tryz.underlying234 rfl rfl ty5.h rfl⟩
instance : FldVC Tryz.prog 234 5 5 false 1 := ⟨FldV.mk' (off := 5) (agg := false) (sz := 1) Tryz.underlying234 rfl rfl ty5.h⟩
instance : FldC Tryz.prog 234 6 6 := ⟨Fld.mk' (off := 6) Tryz.underlying234 rfl rfl ty230.h rfl⟩
instance : FldVC Tryz.prog 234 6 6 false 1 := ⟨FldV.mk' (off := 6) (agg := false) (sz := 1) Tryz.underlying234 rfl rfl ty230.h⟩
instance : FldC Tryz.prog 234 7 7 := ⟨Fld.mk' (off := 7) Tryz.underlying234 rfl rfl ty231.h rfl⟩
instance : FldVC Tryz.prog 234 7 7 false 1 := ⟨FldV.mk' (off := 7) (agg := false) (sz := 1) Tryz.underlying234 rfl rfl ty231.h⟩
instance : FldC Tryz.prog 234 8 8 := ⟨Fld.mk' (off := 8) Tryz.underlying234 rfl rfl ty201.h rfl⟩
instance : FldVC Tryz.prog 234 8 8 false 1 := ⟨FldV.mk' (off := 8) (agg := false) (sz := 1) Tryz.underlying234 rfl rfl ty201.h⟩
instance : FldC Tryz.prog 234 9 9 := ⟨Fld.mk' (off := 9) Tryz.underlying234 rfl rfl ty232.h rfl⟩
instance : FldVC Tryz.prog 234 9 9 false 1 := ⟨FldV.mk' (off := 9) (agg := false) (sz := 1) Tryz.underlying234 rfl rfl ty232.h⟩
instance : FldC Tryz.prog 234 10 10 := ⟨Fld.mk' (off := 10) Tryz.underlying234 rfl rfl ty233.h rfl⟩
instance : FldVC Tryz.prog 234 10 10 false 1 := ⟨FldV.mk' (off := 10) (agg := false) (sz := 1) Tryz.underlying234 rfl rfl ty233.h⟩
instance : FldsC Tryz.prog 234 [(0, 1), (1, 1), (2, 1), (3, 1), (4, 1), (5, 1), (6, 1), (7, 1), (8, 1), (9, 1), (10, 1)] := ⟨⟨_, Tryz.underlying234, by kernel_rfl⟩⟩
instance : FldC Tryz.prog 235 0 0 := ⟨Fld.mk' (off := 0) Tryz.underlying235 rfl rfl ty12.h rfl⟩
instance : FldVC Tryz.prog 235 0 0 false 1 := ⟨FldV.mk' (off := 0) (agg := false) (sz := 1) Tryz.underlying235 rfl rfl ty12.h⟩
instance : FldC Tryz.prog 235 1 1 := ⟨Fld.mk' (off := 1) Tryz.underlying235 rfl rfl ty12.h rfl⟩
instance : FldVC Tryz.prog 235 1 1 false 1 := ⟨FldV.mk' (off := 1) (agg := false) (sz := 1) Tryz.underlying235 rfl rfl ty12.h⟩
instance : FldC Tryz.prog 235 2 2 := ⟨Fld.mk' (off := 2) Tryz.underlying235 rfl rfl ty121.h rfl⟩
instance : FldVC Tryz.prog 235 2 2 false 1 := ⟨FldV.mk' (off := 2) (agg := false) (sz := 1) Tryz.underlying235 rfl rfl ty121.h⟩
instance : FldC Tryz.prog 235 3 3 := ⟨Fld.mk' (off := 3) Tryz.underlying235 rfl rfl ty229.h rfl⟩
instance : FldVC Tryz.prog 235 3 3 false 1 := ⟨FldV.mk' (off := 3) (agg := false) (sz := 1) Tryz.underlying235 rfl rfl ty229.h⟩
instance : FldC Tryz.prog 235 4 4 := ⟨Fld.mk' (off := 4) Tryz.underlying235 rfl rfl ty5.h rfl⟩
instance : FldVC Tryz.prog 235 4 4 false 1 := ⟨FldV.mk' (off := 4) (agg := false) (sz := 1) Tryz.underlying235 rfl rfl ty5.h⟩
instance : FldC Tryz.prog 235 5 5 := ⟨Fld.mk' (off := 5) Tryz.underlying235 rfl rfl ty5.h rfl⟩
instance : FldVC Tryz.prog 235 5 5 false 1 := ⟨FldV.mk' (off := 5) (agg := false) (sz := 1) Tryz.underlying235 rfl rfl ty5.h⟩
instance : FldC Tryz.prog 235 6 6 := ⟨Fld.mk' (off := 6) Tryz.underlying235 rfl rfl ty230.h rfl⟩
instance : FldVC Tryz.prog 235 6 6 false 1 := ⟨FldV.mk' (off := 6) (agg := false) (sz := 1) Tryz.underlying235 rfl rfl ty230.h⟩
instance : FldC Tryz.prog 235 7 7 := ⟨Fld.mk' (off := 7) Tryz.underlying235 rfl rfl ty231.h rfl⟩
instance : FldVC Tryz.prog 235 7 7 false 1 := ⟨FldV.mk' (off := 7) (agg := false) (sz := 1) Tryz.underlying235 rfl rfl ty231.h⟩
instance : FldC Tryz.prog 235 8 8 := ⟨Fld.mk' (off := 8) Tryz.underlying235 rfl rfl ty201.h rfl⟩
instance : FldVC Tryz.prog 235 8 8 false 1 := ⟨FldV.mk' (off := 8) (agg := false) (sz := 1) Tryz.underlying235 rfl rfl ty201.h⟩
instance : FldC Tryz.prog 235 9 9 := ⟨Fld.mk' (off := 9) Tryz.underlying235 rfl rfl ty232.h rfl⟩
instance : FldVC Tryz.prog 235 9 9 false 1 := ⟨FldV.mk' (off := 9) (agg := false) (sz := 1) Tryz.underlying235 rfl rfl ty232.h⟩
instance : FldC Tryz.prog 235 10 10 := ⟨Fld.mk' (off := 10) Tryz.underlying235 rfl rfl ty233.h rfl⟩
instance : FldVC Tryz.prog 235 10 10 false 1 := ⟨FldV.mk' (off := 10) (agg := false) (sz := 1) Tryz.underlying235 rfl rfl ty233.h⟩
instance : FldsC Tryz.prog 235 [(0, 1), (1, 1), (2, 1), (3, 1), (4, 1), (5, 1), (6, 1), (7, 1), (8, 1), (9, 1), (10, 1)] := ⟨⟨_, Tryz.underlying235, by kernel_rfl⟩⟩
instance : FunC Tryz.prog 2 := ⟨⟨Tryz.f2, Tryz.func2, by kernel_rfl, by kernel_rfl⟩⟩
instance : FunC Tryz.prog 3 := ⟨⟨Tryz.f3, Tryz.func3, by kernel_rfl, by kernel_rfl⟩⟩
instance : FunC Tryz.prog 4 := ⟨⟨Tryz.f4, Tryz.func4, by kernel_rfl, by kernel_rfl⟩⟩
instance : FunC Tryz.prog 5 := ⟨⟨Tryz.f5, Tryz.func5, by kernel_rfl, by kernel_rfl⟩⟩
instance : FunC Tryz.prog 6 := ⟨⟨Tryz.f6, Tryz.func6, by kernel_rfl, by kernel_rfl⟩⟩
instance : FunC Tryz.prog 7 := ⟨⟨Tryz.f7, Tryz.func7, by kernel_rfl, by kernel_rfl⟩⟩
instance : FunC Tryz.prog 8 := ⟨⟨Tryz.f8, Tryz.func8, by kernel_rfl, by kernel_rfl⟩⟩
instance : FunC Tryz.prog 9 := ⟨⟨Tryz.f9, Tryz.func9, by kernel_rfl, by kernel_rfl⟩⟩
instance : FunC Tryz.prog 10 := ⟨⟨Tryz.f10, Tryz.func10, by kernel_rfl, by kernel_rfl⟩⟩
instance : FunC Tryz.prog 11 := ⟨⟨Tryz.f11, Tryz.func11, by kernel_rfl, by kernel_rfl⟩⟩
instance : FunC Tryz.prog 12 := ⟨⟨Tryz.f12, Tryz.func12, by kernel_rfl, by kernel_rfl⟩⟩
instance : FunC Tryz.prog 13 := ⟨⟨Tryz.f13, Tryz.func13, by kernel_rfl, by kernel_rfl⟩⟩
instance : FunC Tryz.prog 14 := ⟨⟨Tryz.f14, Tryz.func14, by kernel_rfl, by kernel_rfl⟩⟩
instance : FunC Tryz.prog 15 := ⟨⟨Tryz.f15, Tryz.func15, by kernel_rfl, by kernel_rfl⟩⟩
instance : FunC Tryz.prog 16 := ⟨⟨Tryz.f16, Tryz.func16, by kernel_rfl, by kernel_rfl⟩⟩
instance : FunC Tryz.prog 17 := ⟨⟨Tryz.f17, Tryz.func17, by kernel_rfl, by kernel_rfl⟩⟩
instance : FunC Tryz.prog 18 := ⟨⟨Tryz.f18, Tryz.func18, by kernel_rfl, by kernel_rfl⟩⟩
instance : FunC Tryz.prog 19 := ⟨⟨Tryz.f19, Tryz.func19, by kernel_rfl, by kernel_rfl⟩⟩
instance : FunC Tryz.prog 20 := ⟨⟨Tryz.f20, Tryz.func20, by kernel_rfl, by kernel_rfl⟩⟩
instance : FunC Tryz.prog 21 := ⟨⟨Tryz.f21, Tryz.func21, by kernel_rfl, by kernel_rfl⟩⟩
instance : FunC Tryz.prog 22 := ⟨⟨Tryz.f22, Tryz.func22, by kernel_rfl, by kernel_rfl⟩⟩
instance : FunC Tryz.prog 23 := ⟨⟨Tryz.f23, Tryz.func23, by kernel_rfl, by kernel_rfl⟩⟩
instance : FunC Tryz.prog 24 := ⟨⟨Tryz.f24, Tryz.func24, by kernel_rfl, by kernel_rfl⟩⟩
instance : FunC Tryz.prog 25 := ⟨⟨Tryz.f25, Tryz.func25, by kernel_rfl, by kernel_rfl⟩⟩
instance : FunC Tryz.prog 26 := ⟨⟨Tryz.f26, Tryz.func26, by kernel_rfl, by kernel_rfl⟩⟩
instance : FunC Tryz.prog 27 := ⟨⟨Tryz.f27, Tryz.func27, by kernel_rfl, by kernel_rfl⟩⟩
instance : FunC Tryz.prog 28 := ⟨⟨Tryz.f28, Tryz.func28, by kernel_rfl, by kernel_rfl⟩⟩
instance : FunC Tryz.prog 29 := ⟨⟨Tryz.f29, Tryz.func29, by kernel_rfl, by kernel_rfl⟩⟩
instance : FunC Tryz.prog 30 := ⟨⟨Tryz.f30, Tryz.func30, by kernel_rfl, by kernel_rfl⟩⟩
instance : FunC Tryz.prog 31 := ⟨⟨Tryz.f31, Tryz.func31, by kernel_rfl, by kernel_rfl⟩⟩
instance : FunC Tryz.prog 32 := ⟨⟨Tryz.f32, Tryz.func32, by kernel_rfl, by kernel_rfl⟩⟩
instance : FunC Tryz.prog 33 := ⟨⟨Tryz.f33, Tryz.func33, by kernel_rfl, by kernel_rfl⟩⟩
instance : FunC Tryz.prog 34 := ⟨⟨Tryz.f34, Tryz.func34, by kernel_rfl, by kernel_rfl⟩⟩
instance : FunC Tryz.prog 35 := ⟨⟨Tryz.f35, Tryz.func35, by kernel_rfl, by kernel_rfl⟩⟩
instance : FunC Tryz.prog 36 := ⟨⟨Tryz.f36, Tryz.func36, by kernel_rfl, by kernel_rfl⟩⟩
instance : FunC Tryz.prog 37 := ⟨⟨Tryz.f37, Tryz.func37, by kernel_rfl, by kernel_rfl⟩⟩
instance : FunC Tryz.prog 38 := ⟨⟨Tryz.f38, Tryz.func38, by kernel_rfl, by kernel_rfl⟩⟩
instance : FunC Tryz.prog 39 := ⟨⟨Tryz.f39, Tryz.func39, by kernel_rfl, by kernel_rfl⟩⟩
instance : FunC Tryz.prog 40 := ⟨⟨Tryz.f40, Tryz.func40, by kernel_rfl, by kernel_rfl⟩⟩
instance : FunC Tryz.prog 41 := ⟨⟨Tryz.f41, Tryz.func41, by kernel_rfl, by kernel_rfl⟩⟩
instance : FunC Tryz.prog 42 := ⟨⟨Tryz.f42, Tryz.func42, by kernel_rfl, by kernel_rfl⟩⟩
instance : FunC Tryz.prog 43 := ⟨⟨Tryz.f43, Tryz.func43, by kernel_rfl, by kernel_rfl⟩⟩
instance : FunC Tryz.prog 44 := ⟨⟨Tryz.f44, Tryz.func44, by kernel_rfl, by kernel_rfl⟩⟩
instance : FunC Tryz.prog 45 := ⟨⟨Tryz.f45, Tryz.func45, by kernel_rfl, by kernel_rfl⟩⟩
instance : FunC Tryz.prog 46 := ⟨⟨Tryz.f46, Tryz.func46, by kernel_rfl, by kernel_rfl⟩⟩
instance : FunC Tryz.prog 47 := ⟨⟨Tryz.f47, Tryz.func47, by kernel_rfl, by kernel_rfl⟩⟩
instance : FunC Tryz.prog 48 := ⟨⟨Tryz.f48, Tryz.func48, by kernel_rfl, by kernel_rfl⟩⟩
instance : FunC Tryz.prog 49 := ⟨⟨Tryz.f49, Tryz.func49, by kernel_rfl, by kernel_rfl⟩⟩
instance : FunC Tryz.prog 50 := ⟨⟨Tryz.f50, Tryz.func50, by kernel_rfl, by kernel_rfl⟩⟩
instance : FunC Tryz.prog 51 := ⟨⟨Tryz.f51, Tryz.func51, by kernel_rfl, by kernel_rfl⟩⟩
instance : FunC Tryz.prog 52 := ⟨⟨Tryz.f52, Tryz.func52, by kernel_rfl, by kernel_rfl⟩⟩
instance : FunC Tryz.prog 53 := ⟨⟨Tryz.f53, Tryz.func53, by kernel_rfl, by kernel_rfl⟩⟩
instance : FunC Tryz.prog 54 := ⟨⟨Tryz.f54, Tryz.func54, by kernel_rfl, by kernel_rfl⟩⟩
instance : FunC Tryz.prog 55 := ⟨⟨Tryz.f55, Tryz.func55, by kernel_rfl, by kernel_rfl⟩⟩
instance : FunC Tryz.prog 56 := ⟨⟨Tryz.f56, Tryz.func56, by kernel_rfl, by kernel_rfl⟩⟩
instance : FunC Tryz.prog 57 := ⟨⟨Tryz.f57, Tryz.func57, by kernel_rfl, by kernel_rfl⟩⟩
instance : FunC Tryz.prog 58 := ⟨⟨Tryz.f58, Tryz.func58, by kernel_rfl, by kernel_rfl⟩⟩
instance : FunC Tryz.prog 59 := ⟨⟨Tryz.f59, Tryz.func59, by kernel_rfl, by kernel_rfl⟩⟩
instance : FunC Tryz.prog 60 := ⟨⟨Tryz.f60, Tryz.func60, by kernel_rfl, by kernel_rfl⟩⟩
instance : FunC Tryz.prog 61 := ⟨⟨Tryz.f61, Tryz.func61, by kernel_rfl, by kernel_rfl⟩⟩
instance : FunC Tryz.prog 62 := ⟨⟨Tryz.f62, Tryz.func62, by kernel_rfl, by kernel_rfl⟩⟩
instance : FunC Tryz.prog 63 := ⟨⟨Tryz.f63, Tryz.func63, by kernel_rfl, by kernel_rfl⟩⟩
instance : FunC Tryz.prog 64 := ⟨⟨Tryz.f64, Tryz.func64, by kernel_rfl, by kernel_rfl⟩⟩
instance : FunC Tryz.prog 65 := ⟨⟨Tryz.f65, Tryz.func65, by kernel_rfl, by kernel_rfl⟩⟩
instance : FunC Tryz.prog 66 := ⟨⟨Tryz.f66, Tryz.func66, by kernel_rfl, by kernel_rfl⟩⟩
instance : FunC Tryz.prog 67 := ⟨⟨Tryz.f67, Tryz.func67, by kernel_rfl, by kernel_rfl⟩⟩
instance : FunC Tryz.prog 68 := ⟨⟨Tryz.f68, Tryz.func68, by kernel_rfl, by kernel_rfl⟩⟩
instance : FunC Tryz.prog 69 := ⟨⟨Tryz.f69, Tryz.func69, by kernel_rfl, by kernel_rfl⟩⟩
instance : FunC Tryz.prog 70 := ⟨⟨Tryz.f70, Tryz.func70, by kernel_rfl, by kernel_rfl⟩⟩
instance : FunC Tryz.prog 71 := ⟨⟨Tryz.f71, Tryz.func71, by kernel_rfl, by kernel_rfl⟩⟩
instance : FunC Tryz.prog 72 := ⟨⟨Tryz.f72, Tryz.func72, by kernel_rfl, by kernel_rfl⟩⟩
instance : FunC Tryz.prog 73 := ⟨⟨Tryz.f73, Tryz.func73, by kernel_rfl, by kernel_rfl⟩⟩
instance : FunC Tryz.prog 74 := ⟨⟨Tryz.f74, Tryz.func74, by kernel_rfl, by kernel_rfl⟩⟩
instance : FunC Tryz.prog 75 := ⟨⟨Tryz.f75, Tryz.func75, by kernel_rfl, by kernel_rfl⟩⟩
instance : FunC Tryz.prog 76 := ⟨⟨Tryz.f76, Tryz.func76, by kernel_rfl, by kernel_rfl⟩⟩
instance : FunC Tryz.prog 77 := ⟨⟨Tryz.f77, Tryz.func77, by kernel_rfl, by kernel_rfl⟩⟩
instance : FunC Tryz.prog 78 := ⟨⟨Tryz.f78, Tryz.func78, by kernel_rfl, by kernel_rfl⟩⟩
instance : FunC Tryz.prog 79 := ⟨⟨Tryz.f79, Tryz.func79, by kernel_rfl, by kernel_rfl⟩⟩
instance : FunC Tryz.prog 80 := ⟨⟨Tryz.f80, Tryz.func80, by kernel_rfl, by kernel_rfl⟩⟩
instance : FunC Tryz.prog 81 := ⟨⟨Tryz.f81, Tryz.func81, by kernel_rfl, by kernel_rfl⟩⟩
instance : FunC Tryz.prog 82 := ⟨⟨Tryz.f82, Tryz.func82, by kernel_rfl, by kernel_rfl⟩⟩
instance : FunC Tryz.prog 83 := ⟨⟨Tryz.f83, Tryz.func83, by kernel_rfl, by kernel_rfl⟩⟩
instance : FunC Tryz.prog 84 := ⟨⟨Tryz.f84, Tryz.func84, by kernel_rfl, by kernel_rfl⟩⟩
instance : FunC Tryz.prog 85 := ⟨⟨Tryz.f85, Tryz.func85, by kernel_rfl, by kernel_rfl⟩⟩
instance : FunC Tryz.prog 86 := ⟨⟨Tryz.f86, Tryz.func86, by kernel_rfl, by kernel_rfl⟩⟩
instance : FunC Tryz.prog 87 := ⟨⟨Tryz.f87, Tryz.func87, by kernel_rfl, by kernel_rfl⟩⟩
instance : FunC Tryz.prog 88 := ⟨⟨Tryz.f88, Tryz.func88, by kernel_rfl, by kernel_rfl⟩⟩
instance : FunC Tryz.prog 89 := ⟨⟨Tryz.f89, Tryz.func89, by kernel_rfl, by kernel_rfl⟩⟩
instance : FunC Tryz.prog 90 := ⟨⟨Tryz.f90, Tryz.func90, by kernel_rfl, by kernel_rfl⟩⟩
instance : FunC Tryz.prog 91 := ⟨⟨Tryz.f91, Tryz.func91, by kernel_rfl, by kernel_rfl⟩⟩
instance : FunC Tryz.prog 92 := ⟨⟨Tryz.f92, Tryz.func92, by kernel_rfl, by kernel_rfl⟩⟩
instance : FunC Tryz.prog 93 := ⟨⟨Tryz.f93, Tryz.func93, by kernel_rfl, by kernel_rfl⟩⟩
instance : FunC Tryz.prog 94 := ⟨⟨Tryz.f94, Tryz.func94, by kernel_rfl, by kernel_rfl⟩⟩
instance : FunC Tryz.prog 95 := ⟨⟨Tryz.f95, Tryz.func95, by kernel_rfl, by kernel_rfl⟩⟩
instance : FunC Tryz.prog 96 := ⟨⟨Tryz.f96, Tryz.func96, by kernel_rfl, by kernel_rfl⟩⟩
instance : FunC Tryz.prog 97 := ⟨⟨Tryz.f97, Tryz.func97, by kernel_rfl, by kernel_rfl⟩⟩
instance : FunC Tryz.prog 98 := ⟨⟨Tryz.f98, Tryz.func98, by kernel_rfl, by kernel_rfl⟩⟩
instance : FunC Tryz.prog 99 := ⟨⟨Tryz.f99, Tryz.func99, by kernel_rfl, by kernel_rfl⟩⟩
instance : FunC Tryz.prog 100 := ⟨⟨Tryz.f100, Tryz.func100, by kernel_rfl, by kernel_rfl⟩⟩
instance : FunC Tryz.prog 101 := ⟨⟨Tryz.f101, Tryz.func101, by kernel_rfl, by kernel_rfl⟩⟩
instance : FunC Tryz.prog 102 := ⟨⟨Tryz.f102, Tryz.func102, by kernel_rfl, by kernel_rfl⟩⟩
instance : FunC Tryz.prog 103 := ⟨⟨Tryz.f103, Tryz.func103, by kernel_rfl, by kernel_rfl⟩⟩
instance : FunC Tryz.prog 104 := ⟨⟨Tryz.f104, Tryz.func104, by kernel_rfl, by kernel_rfl⟩⟩
instance : FunC Tryz.prog 105 := ⟨⟨Tryz.f105, Tryz.func105, by kernel_rfl, by kernel_rfl⟩⟩
instance : FunC Tryz.prog 106 := ⟨⟨Tryz.f106, Tryz.func106, by kernel_rfl, by kernel_rfl⟩⟩
instance : FunC Tryz.prog 107 := ⟨⟨Tryz.f107, Tryz.func107, by kernel_rfl, by kernel_rfl⟩⟩
instance : FunC Tryz.prog 108 := ⟨⟨Tryz.f108, Tryz.func108, by kernel_rfl, by kernel_rfl⟩⟩
instance : FunC Tryz.prog 109 := ⟨⟨Tryz.f109, Tryz.func109, by kernel_rfl, by kernel_rfl⟩⟩
instance : FunC Tryz.prog 110 := ⟨⟨Tryz.f110, Tryz.func110, by kernel_rfl, by kernel_rfl⟩⟩
instance : FunC Tryz.prog 111 := ⟨⟨Tryz.f111, Tryz.func111, by kernel_rfl, by kernel_rfl⟩⟩
instance : FunC Tryz.prog 112 := ⟨⟨Tryz.f112, Tryz.func112, by kernel_rfl, by kernel_rfl⟩⟩
instance : FunC Tryz.prog 113 := ⟨⟨Tryz.f113, Tryz.func113, by kernel_rfl, by kernel_rfl⟩⟩
instance : FunC Tryz.prog 114 := ⟨⟨Tryz.f114, Tryz.func114, by kernel_rfl, by kernel_rfl⟩⟩
instance : FunC Tryz.prog 115 := ⟨⟨Tryz.f115, Tryz.func115, by kernel_rfl, by kernel_rfl⟩⟩
instance : FunC Tryz.prog 116 := ⟨⟨Tryz.f116, Tryz.func116, by kernel_rfl, by kernel_rfl⟩⟩
instance : FunC Tryz.prog 117 := ⟨⟨Tryz.f117, Tryz.func117, by kernel_rfl, by kernel_rfl⟩⟩
instance : FunC Tryz.prog 118 := ⟨⟨Tryz.f118, Tryz.func118, by kernel_rfl, by kernel_rfl⟩⟩
instance : FunC Tryz.prog 119 := ⟨⟨Tryz.f119, Tryz.func119, by kernel_rfl, by kernel_rfl⟩⟩
instance : FunC Tryz.prog 120 := ⟨⟨Tryz.f120, Tryz.func120, by kernel_rfl, by kernel_rfl⟩⟩
instance : FunC Tryz.prog 121 := ⟨⟨Tryz.f121, Tryz.func121, by kernel_rfl, by kernel_rfl⟩⟩
instance : FunC Tryz.prog 122 := ⟨⟨Tryz.f122, Tryz.func122, by kernel_rfl, by kernel_rfl⟩⟩
instance : FunC Tryz.prog 123 := ⟨⟨Tryz.f123, Tryz.func123, by kernel_rfl, by kernel_rfl⟩⟩
instance : FunC Tryz.prog 124 := ⟨⟨Tryz.f124, Tryz.func124, by kernel_rfl, by kernel_rfl⟩⟩
instance : FunC Tryz.prog 125 := ⟨⟨Tryz.f125, Tryz.func125, by kernel_rfl, by kernel_rfl⟩⟩
instance : FunC Tryz.prog 126 := ⟨⟨Tryz.f126, Tryz.func126, by kernel_rfl, by kernel_rfl⟩⟩
instance : FunC Tryz.prog 127 := ⟨⟨Tryz.f127, Tryz.func127, by kernel_rfl, by kernel_rfl⟩⟩
instance : FunC Tryz.prog 128 := ⟨⟨Tryz.f128, Tryz.func128, by kernel_rfl, by kernel_rfl⟩⟩
instance : FunC Tryz.prog 129 := ⟨⟨Tryz.f129, Tryz.func129, by kernel_rfl, by kernel_rfl⟩⟩
instance : FunC Tryz.prog 130 := ⟨⟨Tryz.f130, Tryz.func130, by kernel_rfl, by kernel_rfl⟩⟩
instance : FunC Tryz.prog 131 := ⟨⟨Tryz.f131, Tryz.func131, by kernel_rfl, by kernel_rfl⟩⟩
instance : FunC Tryz.prog 132 := ⟨⟨Tryz.f132, Tryz.func132, by kernel_rfl, by kernel_rfl⟩⟩
instance : FunC Tryz.prog 133 := ⟨⟨Tryz.f133, Tryz.func133, by kernel_rfl, by kernel_rfl⟩⟩
instance : FunC Tryz.prog 134 := ⟨⟨Tryz.f134, Tryz.func134, by kernel_rfl, by kernel_rfl⟩⟩
instance : FunC Tryz.prog 135 := ⟨⟨Tryz.f135, Tryz.func135, by kernel_rfl, by kernel_rfl⟩⟩
instance : FunC Tryz.prog 136 := ⟨⟨Tryz.f136, Tryz.func136, by kernel_rfl, by kernel_rfl⟩⟩
instance : FunC Tryz.prog 137 := ⟨⟨Tryz.f137, Tryz.func137, by kernel_rfl, by kernel_rfl⟩⟩
instance : FunC Tryz.prog 138 := ⟨⟨Tryz.f138, Tryz.func138, by kernel_rfl, by kernel_rfl⟩⟩
instance : FunC Tryz.prog 139 := ⟨⟨Tryz.f139, Tryz.func139, by kernel_rfl, by kernel_rfl⟩⟩
instance : FunC Tryz.prog 140 := ⟨⟨Tryz.f140, Tryz.func140, by kernel_rfl, by kernel_rfl⟩⟩
instance : FunC Tryz.prog 141 := ⟨⟨Tryz.f141, Tryz.func141, by kernel_rfl, by kernel_rfl⟩⟩
instance : FunC Tryz.prog 142 := ⟨⟨Tryz.f142, Tryz.func142, by kernel_rfl, by kernel_rfl⟩⟩
instance : FunC Tryz.prog 143 := ⟨⟨Tryz.f143, Tryz.func143, by kernel_rfl, by kernel_rfl⟩⟩
instance : FunC Tryz.prog 144 := ⟨⟨Tryz.f144, Tryz.func144, by kernel_rfl, by kernel_rfl⟩⟩
instance : FunC Tryz.prog 145 := ⟨⟨Tryz.f145, Tryz.func145, by kernel_rfl, by kernel_rfl⟩⟩
instance : FunC Tryz.prog 146 := ⟨⟨Tryz.f146, Tryz.func146, by kernel_rfl, by kernel_rfl⟩⟩
instance : FunC Tryz.prog 147 := ⟨⟨Tryz.f147, Tryz.func147, by kernel_rfl, by kernel_rfl⟩⟩
instance : FunC Tryz.prog 148 := ⟨⟨Tryz.f148, Tryz.func148, by kernel_rfl, by kernel_rfl⟩⟩
instance : FunC Tryz.prog 149 := ⟨⟨Tryz.f149, Tryz.func149, by kernel_rfl, by kernel_rfl⟩⟩
instance : FunC Tryz.prog 150 := ⟨⟨Tryz.f150, Tryz.func150, by kernel_rfl, by kernel_rfl⟩⟩
instance : FunC Tryz.prog 151 := ⟨⟨Tryz.f151, Tryz.func151, by kernel_rfl, by kernel_rfl⟩⟩
instance : FunC Tryz.prog 152 := ⟨⟨Tryz.f152, Tryz.func152, by kernel_rfl, by kernel_rfl⟩⟩
instance : FunC Tryz.prog 153 := ⟨⟨Tryz.f153, Tryz.func153, by kernel_rfl, by kernel_rfl⟩⟩
instance : FunC Tryz.prog 154 := ⟨⟨Tryz.f154, Tryz.func154, by kernel_rfl, by kernel_rfl⟩⟩
instance : FunC Tryz.prog 155 := ⟨⟨Tryz.f155, Tryz.func155, by kernel_rfl, by kernel_rfl⟩⟩
instance : FunC Tryz.prog 156 := ⟨⟨Tryz.f156, Tryz.func156, by kernel_rfl, by kernel_rfl⟩⟩
instance : FunC Tryz.prog 157 := ⟨⟨Tryz.f157, Tryz.func157, by kernel_rfl, by kernel_rfl⟩⟩
instance : FunC Tryz.prog 158 := ⟨⟨Tryz.f158, Tryz.func158, by kernel_rfl, by kernel_rfl⟩⟩
instance : FunC Tryz.prog 159 := ⟨⟨Tryz.f159, Tryz.func159, by kernel_rfl, by kernel_rfl⟩⟩
instance : FunC Tryz.prog 160 := ⟨⟨Tryz.f160, Tryz.func160, by kernel_rfl, by kernel_rfl⟩⟩
instance : FunC Tryz.prog 161 := ⟨⟨Tryz.f161, Tryz.func161, by kernel_rfl, by kernel_rfl⟩⟩
instance : FunC Tryz.prog 162 := ⟨⟨Tryz.f162, Tryz.func162, by kernel_rfl, by kernel_rfl⟩⟩
instance : FunC Tryz.prog 163 := ⟨⟨Tryz.f163, Tryz.func163, by kernel_rfl, by kernel_rfl⟩⟩
instance : FunC Tryz.prog 164 := ⟨⟨Tryz.f164, Tryz.func164, by kernel_rfl, by kernel_rfl⟩⟩
instance : FunC Tryz.prog 165 := ⟨⟨Tryz.f165, Tryz.func165, by kernel_rfl, by kernel_rfl⟩⟩
instance : FunC Tryz.prog 166 := ⟨⟨Tryz.f166, Tryz.func166, by kernel_rfl, by kernel_rfl⟩⟩
instance : FunC Tryz.prog 167 := ⟨⟨Tryz.f167, Tryz.func167, by kernel_rfl, by kernel_rfl⟩⟩
instance : FunC Tryz.prog 168 := ⟨⟨Tryz.f168, Tryz.func168, by kernel_rfl, by kernel_rfl⟩⟩
instance : FunC Tryz.prog 174 := ⟨⟨Tryz.f174, Tryz.func174, by kernel_rfl, by kernel_rfl⟩⟩
instance : FunC Tryz.prog 175 := ⟨⟨Tryz.f175, Tryz.func175, by kernel_rfl, by kernel_rfl⟩⟩
instance : FunC Tryz.prog 176 := ⟨⟨Tryz.f176, Tryz.func176, by kernel_rfl, by kernel_rfl⟩⟩
instance : FunC Tryz.prog 177 := ⟨⟨Tryz.f177, Tryz.func177, by kernel_rfl, by kernel_rfl⟩⟩
instance : FunC Tryz.prog 178 := ⟨⟨Tryz.f178, Tryz.func178, by kernel_rfl, by kernel_rfl⟩⟩
instance : FunC Tryz.prog 179 := ⟨⟨Tryz.f179, Tryz.func179, by kernel_rfl, by kernel_rfl⟩⟩
instance : FunC Tryz.prog 180 := ⟨⟨Tryz.f180, Tryz.func180, by kernel_rfl, by kernel_rfl⟩⟩
instance : FunC Tryz.prog 184 := ⟨⟨Tryz.f184, Tryz.func184, by kernel_rfl, by kernel_rfl⟩⟩
instance : FunC Tryz.prog 185 := ⟨⟨Tryz.f185, Tryz.func185, by kernel_rfl, by kernel_rfl⟩⟩
instance : FunC Tryz.prog 186 := ⟨⟨Tryz.f186, Tryz.func186, by kernel_rfl, by kernel_rfl⟩⟩
end Go.Proofs.YtokbhcnomffopaaGreatDoor
end

section
/- The contracts of what tells whether a document may be: chars, cells, lines, doc. -/
set_option linter.unusedVariables false
set_option linter.unusedSimpArgs false
set_option maxHeartbeats 4000000
namespace Go.Proofs.YtokbhcnomffopaaGreatDoor
open Go Go.QL

theorem validRune_calls (c : Int) : ICalls Tryz.prog 130 [.int .i32 c] [] (fun u _ => u = .bool (vrune c)) := by
  refine x_enter Tryz.func130 Tryz.ntmps130 ?_
  refine ic_seq ?_
  refine ic_region ?_
  refine x_op ?_
  refine il_nil ?_
  refine ic_seq ?_
  refine ic_block ?_ -- 0
  refine x_mid [3] [4, 5, 6, 7, 8, 9] (fun vs σ => vs = [.bool (decide (0 ≤ c) && decide (c < 55296))] ∧ σ = []) ?_ ?_
  · refine ic_region ?_
    repeat' (first | refine x_op ?_ | refine n_op ?_ | refine y_op ?_ | refine il_split (fun _ => ?_) (fun _ => ?_) | refine il_nil ?_)
    all_goals exact x_there
  rintro vs σ ⟨rfl, rfl⟩
  simp only [sets, nf]
  refine ic_cond rfl (fun hc => ?_) (fun hc => ?_) -- t3
  · -- true
    refine ic_seq ?_
    refine ic_region ?_
    refine x_op ?_
    refine il_nil ?_
    refine ic_ret ?_
    repeat (first | with_reducible refine it_ret ?_ | with_reducible refine ib_ret ?_)
    exact x_ret1v Tryz.results130 (he := by simp only [vrune, hc, Bool.true_or])
  · -- false
    refine x_mid [10] [11, 12, 13, 14, 15, 16] (fun vs σ => vs = [.bool (decide (57343 < c) && decide (c ≤ 1114111))] ∧ σ = []) ?_ ?_
    · refine ic_region ?_
      repeat' (first | refine x_op ?_ | refine n_op ?_ | refine y_op ?_ | refine il_split (fun _ => ?_) (fun _ => ?_) | refine il_nil ?_)
      all_goals exact x_there
    rintro vs σ ⟨rfl, rfl⟩
    simp only [sets, nf]
    refine ic_cond rfl (fun hc2 => ?_) (fun hc2 => ?_) -- t10
    · -- true
      refine ic_seq ?_
      refine ic_region ?_
      refine x_op ?_
      refine il_nil ?_
      refine ic_ret ?_
      repeat (first | with_reducible refine it_ret ?_ | with_reducible refine ib_ret ?_)
      exact x_ret1v Tryz.results130 (he := by simp only [vrune, hc2, Bool.or_true])
    · -- false
      refine ic_skip ?_
      refine ic_seq ?_
      refine ic_region ?_
      refine x_op ?_
      refine il_nil ?_
      refine ic_ret ?_
      repeat (first | with_reducible refine it_ret ?_ | with_reducible refine ib_ret ?_)
      exact x_ret1v Tryz.results130 (he := by simp only [vrune, hc, hc2, Bool.or_false])
theorem class_calls (c : Int) : ICalls Tryz.prog 116 [.int .i32 c] [] (fun u _ => u = .int .i64 (cls c)) := by
  refine x_enter Tryz.func116 Tryz.ntmps116 ?_
  refine ic_seq ?_
  refine ic_region ?_
  refine x_op ?_
  refine il_nil ?_
  refine ic_seq ?_
  refine ic_block ?_
  refine ic_seq ?_
  refine ic_block ?_
  refine ic_seq ?_
  refine ic_block ?_
  refine ic_block ?_
  refine ic_block ?_
  refine ic_seq ?_
  refine ic_block ?_
  refine ic_seq ?_
  refine ic_block ?_
  refine ic_seq ?_
  refine ic_block ?_
  refine ic_block ?_
  refine ic_seq ?_
  refine ic_block ?_
  refine ic_seq ?_
  refine ic_seq ?_
  refine ic_seq ?_
  refine ic_region ?_
  refine x_op ?_
  refine x_cv (validRune_calls c) ?_
  refine x_op ?_
  refine x_op ?_
  refine il_nil ?_
  refine ic_cond rfl (fun h1 => ?_) (fun h1 => ?_) -- t3
  · refine ic_exit ?_ -- 1
    refine ic_seq ?_
    refine ic_seq ?_
    refine ic_region ?_
    refine x_op ?_
    refine il_nil ?_
    refine ic_ret ?_
    repeat (first | with_reducible refine it_ret ?_ | with_reducible refine ib_ret ?_)
    exact x_ret1v Tryz.results116 (he := by simp [cls, show vrune c = false by simpa using h1])
  have hv : vrune c = true := by simpa using h1
  refine ic_skip ?_
  refine ic_seq ?_
  refine ic_seq ?_
  refine ic_region ?_
  refine x_op ?_
  refine x_op ?_
  refine x_op ?_
  refine il_nil ?_
  refine ic_cond rfl (fun g2 => ?_) (fun g2 => ?_)
  · have g2 := of_decide_eq_true g2
    refine ic_exit ?_
    refine ic_seq ?_
    refine ic_seq ?_
    refine ic_region ?_
    refine x_op ?_
    refine il_nil ?_
    refine ic_ret ?_
    repeat (first | with_reducible refine it_ret ?_ | with_reducible refine ib_ret ?_)
    exact x_ret1v Tryz.results116 (he := by rw [cls_is hv]; (repeat' split) <;> first | rfl | (exfalso; omega))
  have g2 := of_decide_eq_false g2
  refine ic_skip ?_
  refine ic_seq ?_
  refine ic_seq ?_
  refine ic_region ?_
  refine x_op ?_
  refine x_op ?_
  refine x_op ?_
  refine il_nil ?_
  refine ic_cond rfl (fun g3 => ?_) (fun g3 => ?_)
  · have g3 := of_decide_eq_true g3
    refine ic_exit ?_
    refine ic_seq ?_
    refine ic_seq ?_
    refine ic_region ?_
    refine x_op ?_
    refine il_nil ?_
    refine ic_ret ?_
    repeat (first | with_reducible refine it_ret ?_ | with_reducible refine ib_ret ?_)
    exact x_ret1v Tryz.results116 (he := by rw [cls_is hv]; (repeat' split) <;> first | rfl | (exfalso; omega))
  have g3 := of_decide_eq_false g3
  refine ic_skip ?_
  refine ic_seq ?_
  refine x_mid [13] [14, 15, 16, 17] (fun vs σ => vs = [.bool (decide (c = 32) || decide (c = 160))] ∧ σ = []) ?_ ?_
  ·
    refine ic_seq ?_
    refine ic_region ?_
    refine x_op ?_
    refine x_op ?_
    refine x_op ?_
    refine il_nil ?_
    refine ic_cond rfl (fun hc => ?_) (fun hc => ?_) -- t13
    · -- true
      refine ic_skip ?_
      exact x_there
    · -- false
      refine ic_region ?_
      refine x_op ?_
      refine x_op ?_
      refine x_op ?_
      refine il_nil ?_
      exact x_there
  rintro vs σ ⟨rfl, rfl⟩
  simp only [sets, nf]
  refine ic_cond rfl (fun g4 => ?_) (fun g4 => ?_)
  · simp only [Bool.or_eq_true, decide_eq_true_eq] at g4
    refine ic_exit ?_
    refine ic_seq ?_
    refine ic_seq ?_
    refine ic_region ?_
    refine x_op ?_
    refine il_nil ?_
    refine ic_ret ?_
    repeat (first | with_reducible refine it_ret ?_ | with_reducible refine ib_ret ?_)
    exact x_ret1v Tryz.results116 (he := by rw [cls_is hv]; (repeat' split) <;> first | rfl | (exfalso; omega))
  simp only [Bool.or_eq_false_iff, decide_eq_false_iff_not] at g4
  refine ic_skip ?_
  refine ic_seq ?_
  refine ic_seq ?_
  refine ic_region ?_
  refine x_op ?_
  refine x_op ?_
  refine x_op ?_
  refine il_nil ?_
  refine ic_cond rfl (fun g5 => ?_) (fun g5 => ?_)
  · have g5 := of_decide_eq_true g5
    refine ic_exit ?_
    refine ic_seq ?_
    refine ic_seq ?_
    refine ic_region ?_
    refine x_op ?_
    refine il_nil ?_
    refine ic_ret ?_
    repeat (first | with_reducible refine it_ret ?_ | with_reducible refine ib_ret ?_)
    exact x_ret1v Tryz.results116 (he := by rw [cls_is hv]; (repeat' split) <;> first | rfl | (exfalso; omega))
  have g5 := of_decide_eq_false g5
  refine ic_skip ?_
  refine ic_seq ?_
  refine x_mid [21] [22, 23, 24, 25, 26, 27] (fun vs σ => vs = [.bool (decide (97 ≤ c) && decide (c ≤ 122))] ∧ σ = []) ?_ ?_
  · refine ic_region ?_
    repeat' (first | refine x_op ?_ | refine n_op ?_ | refine y_op ?_ | refine il_split (fun _ => ?_) (fun _ => ?_) | refine il_nil ?_)
    all_goals exact x_there
  rintro vs σ ⟨rfl, rfl⟩
  simp only [sets, nf]
  refine ic_cond rfl (fun g6 => ?_) (fun g6 => ?_)
  · simp only [Bool.and_eq_true, decide_eq_true_eq] at g6
    refine ic_exit ?_
    refine ic_seq ?_
    refine ic_seq ?_
    refine ic_region ?_
    refine x_op ?_
    refine il_nil ?_
    refine ic_ret ?_
    repeat (first | with_reducible refine it_ret ?_ | with_reducible refine ib_ret ?_)
    exact x_ret1v Tryz.results116 (he := by rw [cls_is hv]; (repeat' split) <;> first | rfl | (exfalso; omega))
  simp only [Bool.and_eq_false_imp, decide_eq_true_eq, decide_eq_false_iff_not] at g6
  refine ic_skip ?_
  refine ic_seq ?_
  refine x_mid [28] [29, 30, 31, 32, 33, 34] (fun vs σ => vs = [.bool (decide (65 ≤ c) && decide (c ≤ 90))] ∧ σ = []) ?_ ?_
  · refine ic_region ?_
    repeat' (first | refine x_op ?_ | refine n_op ?_ | refine y_op ?_ | refine il_split (fun _ => ?_) (fun _ => ?_) | refine il_nil ?_)
    all_goals exact x_there
  rintro vs σ ⟨rfl, rfl⟩
  simp only [sets, nf]
  refine ic_cond rfl (fun g7 => ?_) (fun g7 => ?_)
  · simp only [Bool.and_eq_true, decide_eq_true_eq] at g7
    refine ic_exit ?_
    refine ic_seq ?_
    refine ic_seq ?_
    refine ic_region ?_
    refine x_op ?_
    refine il_nil ?_
    refine ic_ret ?_
    repeat (first | with_reducible refine it_ret ?_ | with_reducible refine ib_ret ?_)
    exact x_ret1v Tryz.results116 (he := by rw [cls_is hv]; (repeat' split) <;> first | rfl | (exfalso; omega))
  simp only [Bool.and_eq_false_imp, decide_eq_true_eq, decide_eq_false_iff_not] at g7
  refine ic_skip ?_
  refine ic_seq ?_
  refine ic_seq ?_
  refine ic_region ?_
  refine x_op ?_
  refine x_op ?_
  refine x_op ?_
  refine il_nil ?_
  refine ic_cond rfl (fun g8 => ?_) (fun g8 => ?_)
  · have g8 := of_decide_eq_true g8
    refine ic_exit ?_
    refine ic_seq ?_
    refine ic_seq ?_
    refine ic_region ?_
    refine x_op ?_
    refine il_nil ?_
    refine ic_ret ?_
    repeat (first | with_reducible refine it_ret ?_ | with_reducible refine ib_ret ?_)
    exact x_ret1v Tryz.results116 (he := by rw [cls_is hv]; (repeat' split) <;> first | rfl | (exfalso; omega))
  have g8 := of_decide_eq_false g8
  refine ic_skip ?_
  refine x_mid [38] [39, 40, 41, 42, 43, 44] (fun vs σ => vs = [.bool (decide (48 ≤ c) && decide (c ≤ 57))] ∧ σ = []) ?_ ?_
  · refine ic_region ?_
    repeat' (first | refine x_op ?_ | refine n_op ?_ | refine y_op ?_ | refine il_split (fun _ => ?_) (fun _ => ?_) | refine il_nil ?_)
    all_goals exact x_there
  rintro vs σ ⟨rfl, rfl⟩
  simp only [sets, nf]
  refine ic_cond rfl (fun g9 => ?_) (fun g9 => ?_)
  · simp only [Bool.and_eq_true, decide_eq_true_eq] at g9
    refine ic_exit ?_
    refine ic_seq ?_
    refine ic_seq ?_
    refine ic_region ?_
    refine x_op ?_
    refine il_nil ?_
    refine ic_ret ?_
    repeat (first | with_reducible refine it_ret ?_ | with_reducible refine ib_ret ?_)
    exact x_ret1v Tryz.results116 (he := by rw [cls_is hv]; (repeat' split) <;> first | rfl | (exfalso; omega))
  simp only [Bool.and_eq_false_imp, decide_eq_true_eq, decide_eq_false_iff_not] at g9
  refine ic_skip ?_
  refine ic_exit ?_ -- 0
  refine ic_seq ?_
  refine ic_region ?_
  refine x_op ?_
  refine il_nil ?_
  refine ic_ret ?_
  repeat (first | with_reducible refine it_ret ?_ | with_reducible refine ib_ret ?_)
  exact x_ret1v Tryz.results116 (he := by rw [cls_is hv]; (repeat' split) <;> first | rfl | (exfalso; omega))
theorem charMay_calls (c : Int) : ICalls Tryz.prog 101 [.int .i32 c] [] (fun u _ => u = .bool (charMay c)) := by
  refine x_enter Tryz.func101 Tryz.ntmps101 ?_
  refine ic_seq ?_
  refine ic_region ?_
  refine x_op ?_
  refine il_nil ?_
  refine ic_seq ?_
  refine ic_region ?_
  refine x_op ?_
  refine x_cv (class_calls c) ?_
  refine x_op ?_
  refine x_op ?_
  refine il_nil ?_
  refine ic_ret ?_
  repeat (first | with_reducible refine it_ret ?_ | with_reducible refine ib_ret ?_)
  exact x_res1 Tryz.results101 rfl
/-- What is taken of attrs.Target: it answers T, at the links of a text. -/
abbrev TargetOf (T : Str → Bool) (h : Str) : Prop := h ≠ ⟨#[]⟩ → ICalls Tryz.prog 114 [.str h] [] (fun u _ => u = .bool (T h))
theorem link_calls (T : Str → Bool) (h : Str) (hT : TargetOf T h) : ICalls Tryz.prog 102 [.str h] [] (fun u _ => u = .bool (linkMay T h)) := by
  refine x_enter Tryz.func102 Tryz.ntmps102 ?_
  refine ic_seq ?_
  refine ic_region ?_
  refine x_op ?_
  refine il_nil ?_
  refine x_mid [2] [3, 4, 5, 6, 7, 8] (fun vs σ => vs = [.bool (linkMay T h)] ∧ σ = []) ?_ ?_
  · refine ic_region ?_
    by_cases hh : h = ⟨#[]⟩
    · have e : linkMay T h = true := by simp [linkMay, hh]
      rw [e]
      refine x_op ?_
      refine x_op ?_
      simp only [decide_eq_true hh]
      refine x_op ?_
      refine n_op ?_
      refine n_op ?_
      refine x_op ?_
      refine x_op ?_
      refine il_nil ?_
      exact x_there
    · have e : linkMay T h = T h := by simp [linkMay, hh]
      rw [e]
      refine x_op ?_
      refine x_op ?_
      simp only [decide_eq_false hh]
      refine x_op ?_
      refine y_op ?_
      refine y_cv (hT hh) ?_
      refine x_op ?_
      refine x_op ?_
      refine il_nil ?_
      exact x_there
  rintro vs σ ⟨rfl, rfl⟩
  simp only [sets, nf]
  refine ic_ret ?_
  repeat (first | with_reducible refine it_ret ?_ | with_reducible refine ib_ret ?_)
  exact x_res1 Tryz.results102 rfl
theorem celMay1_calls (T : Str → Bool) (c : Cel) (hT : TargetOf T c.href) : ICalls Tryz.prog 100 [eC c] [] (fun u _ => u = .bool (celNot T c)) := by
  refine x_enter Tryz.func100 Tryz.ntmps100 ?_
  refine ic_seq ?_
  refine ic_region ?_
  refine x_op ?_
  refine x_op ?_
  refine il_nil ?_
  refine x_mid [2] [3, 4, 5, 6, 7, 8, 9, 10, 11, 12, 13, 14, 15, 16, 17, 18, 19, 20, 21, 22, 23, 24, 25, 26, 27] (fun vs σ => vs = [.bool ((((!charMay c.r && !decide (c.r = 10)) || decide (c.bits < 0)) || decide (15 < c.bits)) || !linkMay T c.href)] ∧ σ = [.box 57 (clc c)]) ?_ ?_
  · refine ic_region ?_
    refine x_op ?_
    refine x_op ?_
    refine x_cv (charMay_calls c.r) ?_
    repeat' (first | refine x_op ?_ | refine n_op ?_ | refine x_cv (link_calls T c.href hT) ?_ | refine y_cv (link_calls T c.href hT) ?_ | refine y_op ?_ | refine il_split (fun _ => ?_) (fun _ => ?_) | refine il_nil ?_)
    all_goals exact x_there
  rintro vs σ ⟨rfl, rfl⟩
  simp only [sets, nf]
  refine ic_ret ?_
  repeat (first | with_reducible refine it_ret ?_ | with_reducible refine ib_ret ?_)
  exact x_res1 Tryz.results100 rfl
theorem idxFC_calls (l : List Cel) (b : Bool) (g : Nat) (fs cs : List IV) (p : Cel → Bool) (hl : l.length ≤ 4294967296) [FunC Tryz.prog g] (hg : ∀ x ∈ l, ICalls Tryz.prog g (fs ++ [eC x] ++ cs) [] (fun u _ => u = .bool (p x))) (hd : Dat (.fn (.func g) fs cs)) (hfs : ∀ x ∈ fs, Dat x) (hcs : ∀ x ∈ cs, Dat x) :
    ICalls Tryz.prog 115 [.sl b (l.map eC), .fn (.func g) fs cs] [] (fun u _ => u = .int .i64 (fidx p l 0)) := by
  refine x_enter Tryz.func115 Tryz.ntmps115 ?_
  refine ic_seq ?_
  refine ic_region ?_
  refine x_op ?_
  refine il_nil ?_
  refine ic_seq ?_
  refine ic_seq ?_
  refine ic_region ?_
  refine x_op ?_
  refine x_op ?_
  refine x_op ?_
  refine il_nil ?_
  refine ic_block ?_ -- 0
  refine x_loop [8] [4, 5, 9, 10, 11, 12, 13, 14, 15, 16, 17, 18] (fun m vs σ => ∃ i : Nat, i ≤ l.length ∧ m = l.length - i ∧ vs = [.int .i64 i] ∧ σ = [] ∧ fidx p l 0 = fidx p (l.drop i) i) ⟨0, Nat.zero_le _, rfl, rfl, rfl, rfl⟩ ?_
  rintro m vs σ ⟨i, hi, rfl, rfl, rfl, hf⟩
  simp only [sets, nf]
  refine ic_seq ?_
  refine ic_region ?_
  refine x_op ?_
  refine il_nil ?_
  refine ic_seq ?_
  refine ic_cond rfl (fun hc => ?_) (fun hc => ?_) -- t9
  · -- true
    have hil : i < l.length := by have := of_decide_eq_true hc; omega
    have hix : (l.map eC)[((i : Nat) : Int).toNat]? = some (eC l[i]) := by simp [hil]
    have hdr : l.drop i = l[i] :: l.drop (i + 1) := List.drop_eq_getElem_cons hil
    have hdat : ∀ x ∈ fs ++ [eC l[i]] ++ cs, Dat x := fun x hx => by
      rcases List.mem_append.1 hx with hx | hx
      · rcases List.mem_append.1 hx with hx | hx
        · exact hfs x hx
        · rw [List.mem_singleton.1 hx]; exact dat_eC _
      · exact hcs x hx
    refine ic_skip ?_
    refine ic_seq ?_
    refine ic_block ?_ -- 1
    refine ic_seq ?_
    refine ic_region ?_
    refine x_op ?_
    refine x_op ?_
    refine il_nil ?_
    refine ic_seq ?_
    refine ic_region ?_
    refine x_op ?_
    refine x_op ?_
    refine x_op ?_
    refine x_op ?_
    refine x_op ?_
    refine x_callv ((hg l[i] (List.getElem_mem hil)).frame1 hdat (.bool _) _) ?_
    refine il_nil ?_
    rw [hdr, fidx] at hf
    refine ic_cond rfl (fun hc => ?_) (fun hc => ?_) -- t16
    · -- true
      rw [if_pos hc] at hf
      rw [hf]
      refine ic_seq ?_
      refine ic_region ?_
      refine x_op ?_
      refine x_op ?_
      refine il_nil ?_
      refine ic_ret ?_
      repeat (first | with_reducible refine it_ret ?_ | with_reducible refine ib_ret ?_)
      exact x_res1 Tryz.results115 rfl
    · -- false
      rw [if_neg (by rw [hc]; simp)] at hf
      refine ic_skip ?_
      refine ic_region ?_
      refine x_op ?_
      refine x_op ?_
      refine il_nil ?_
      exact x_next (l.length - (i + 1)) ⟨i + 1, by omega, rfl, rfl, rfl, hf⟩ (by omega) -- round
  · -- false
    obtain rfl : i = l.length := by have := of_decide_eq_false hc; omega
    rw [List.drop_length, fidx] at hf
    rw [hf]
    refine ic_exit ?_ -- 0
    refine ic_seq ?_
    refine ic_region ?_
    refine x_op ?_
    refine il_nil ?_
    refine ic_ret ?_
    repeat (first | with_reducible refine it_ret ?_ | with_reducible refine ib_ret ?_)
    exact x_res1 Tryz.results115 rfl
theorem cntFC_calls (l : List Cel) (b : Bool) (g : Nat) (fs cs : List IV) (p : Cel → Bool) (hl : l.length ≤ 4294967296) [FunC Tryz.prog g] (hg : ∀ x ∈ l, ICalls Tryz.prog g (fs ++ [eC x] ++ cs) [] (fun u _ => u = .bool (p x))) (hd : Dat (.fn (.func g) fs cs)) (hfs : ∀ x ∈ fs, Dat x) (hcs : ∀ x ∈ cs, Dat x) :
    ICalls Tryz.prog 99 [.sl b (l.map eC), .fn (.func g) fs cs] [] (fun u _ => u = .bool (l.any p)) := by
  have hany := fidx_any p l 0
  refine x_enter Tryz.func99 Tryz.ntmps99 ?_
  refine ic_seq ?_
  refine ic_region ?_
  refine x_op ?_
  refine il_nil ?_
  refine ic_seq ?_
  refine ic_region ?_
  refine x_op ?_
  refine x_op ?_
  refine x_cv (idxFC_calls l b g fs cs p hl hg hd hfs hcs) ?_ (hd := dat_cons (Dat.sl (dat_map dat_eC _)) (dat_cons hd dat_nil))
  refine x_op ?_
  refine x_op ?_
  refine il_nil ?_
  refine ic_ret ?_
  repeat (first | with_reducible refine it_ret ?_ | with_reducible refine ib_ret ?_)
  exact x_ret1v Tryz.results99 (he := congrArg IV.bool hany)
theorem idxFL_calls (l : List Lin) (b : Bool) (g : Nat) (fs cs : List IV) (p : Lin → Bool) (hl : l.length ≤ 4294967296) [FunC Tryz.prog g] (hg : ∀ x ∈ l, ICalls Tryz.prog g (fs ++ [eL x] ++ cs) [] (fun u _ => u = .bool (p x))) (hd : Dat (.fn (.func g) fs cs)) (hfs : ∀ x ∈ fs, Dat x) (hcs : ∀ x ∈ cs, Dat x) :
    ICalls Tryz.prog 75 [.sl b (l.map eL), .fn (.func g) fs cs] [] (fun u _ => u = .int .i64 (fidx p l 0)) := by
  refine x_enter Tryz.func75 Tryz.ntmps75 ?_
  refine ic_seq ?_
  refine ic_region ?_
  refine x_op ?_
  refine il_nil ?_
  refine ic_seq ?_
  refine ic_seq ?_
  refine ic_region ?_
  refine x_op ?_
  refine x_op ?_
  refine x_op ?_
  refine il_nil ?_
  refine ic_block ?_ -- 0
  refine x_loop [8] [4, 5, 9, 10, 11, 12, 13, 14, 15, 16, 17, 18] (fun m vs σ => ∃ i : Nat, i ≤ l.length ∧ m = l.length - i ∧ vs = [.int .i64 i] ∧ σ = [] ∧ fidx p l 0 = fidx p (l.drop i) i) ⟨0, Nat.zero_le _, rfl, rfl, rfl, rfl⟩ ?_
  rintro m vs σ ⟨i, hi, rfl, rfl, rfl, hf⟩
  simp only [sets, nf]
  refine ic_seq ?_
  refine ic_region ?_
  refine x_op ?_
  refine il_nil ?_
  refine ic_seq ?_
  refine ic_cond rfl (fun hc => ?_) (fun hc => ?_) -- t9
  · -- true
    have hil : i < l.length := by have := of_decide_eq_true hc; omega
    have hix : (l.map eL)[((i : Nat) : Int).toNat]? = some (eL l[i]) := by simp [hil]
    have hdr : l.drop i = l[i] :: l.drop (i + 1) := List.drop_eq_getElem_cons hil
    have hdat : ∀ x ∈ fs ++ [eL l[i]] ++ cs, Dat x := fun x hx => by
      rcases List.mem_append.1 hx with hx | hx
      · rcases List.mem_append.1 hx with hx | hx
        · exact hfs x hx
        · rw [List.mem_singleton.1 hx]; exact dat_eL _
      · exact hcs x hx
    refine ic_skip ?_
    refine ic_seq ?_
    refine ic_block ?_ -- 1
    refine ic_seq ?_
    refine ic_region ?_
    refine x_op ?_
    refine x_op ?_
    refine il_nil ?_
    refine ic_seq ?_
    refine ic_region ?_
    refine x_op ?_
    refine x_op ?_
    refine x_op ?_
    refine x_op ?_
    refine x_op ?_
    refine x_callv ((hg l[i] (List.getElem_mem hil)).frame1 hdat (.bool _) _) ?_
    refine il_nil ?_
    rw [hdr, fidx] at hf
    refine ic_cond rfl (fun hc => ?_) (fun hc => ?_) -- t16
    · -- true
      rw [if_pos hc] at hf
      rw [hf]
      refine ic_seq ?_
      refine ic_region ?_
      refine x_op ?_
      refine x_op ?_
      refine il_nil ?_
      refine ic_ret ?_
      repeat (first | with_reducible refine it_ret ?_ | with_reducible refine ib_ret ?_)
      exact x_res1 Tryz.results75 rfl
    · -- false
      rw [if_neg (by rw [hc]; simp)] at hf
      refine ic_skip ?_
      refine ic_region ?_
      refine x_op ?_
      refine x_op ?_
      refine il_nil ?_
      exact x_next (l.length - (i + 1)) ⟨i + 1, by omega, rfl, rfl, rfl, hf⟩ (by omega) -- round
  · -- false
    obtain rfl : i = l.length := by have := of_decide_eq_false hc; omega
    rw [List.drop_length, fidx] at hf
    rw [hf]
    refine ic_exit ?_ -- 0
    refine ic_seq ?_
    refine ic_region ?_
    refine x_op ?_
    refine il_nil ?_
    refine ic_ret ?_
    repeat (first | with_reducible refine it_ret ?_ | with_reducible refine ib_ret ?_)
    exact x_res1 Tryz.results75 rfl
theorem cntFL_calls (l : List Lin) (b : Bool) (g : Nat) (fs cs : List IV) (p : Lin → Bool) (hl : l.length ≤ 4294967296) [FunC Tryz.prog g] (hg : ∀ x ∈ l, ICalls Tryz.prog g (fs ++ [eL x] ++ cs) [] (fun u _ => u = .bool (p x))) (hd : Dat (.fn (.func g) fs cs)) (hfs : ∀ x ∈ fs, Dat x) (hcs : ∀ x ∈ cs, Dat x) :
    ICalls Tryz.prog 49 [.sl b (l.map eL), .fn (.func g) fs cs] [] (fun u _ => u = .bool (l.any p)) := by
  have hany := fidx_any p l 0
  refine x_enter Tryz.func49 Tryz.ntmps49 ?_
  refine ic_seq ?_
  refine ic_region ?_
  refine x_op ?_
  refine il_nil ?_
  refine ic_seq ?_
  refine ic_region ?_
  refine x_op ?_
  refine x_op ?_
  refine x_cv (idxFL_calls l b g fs cs p hl hg hd hfs hcs) ?_ (hd := dat_cons (Dat.sl (dat_map dat_eL _)) (dat_cons hd dat_nil))
  refine x_op ?_
  refine x_op ?_
  refine il_nil ?_
  refine ic_ret ?_
  repeat (first | with_reducible refine it_ret ?_ | with_reducible refine ib_ret ?_)
  exact x_ret1v Tryz.results49 (he := congrArg IV.bool hany)
theorem idxFI_calls (l : List Int) (b : Bool) (g : Nat) (fs cs : List IV) (p : Int → Bool) (hl : l.length ≤ 4294967296) [FunC Tryz.prog g] (hg : ∀ x ∈ l, ICalls Tryz.prog g (fs ++ [eI x] ++ cs) [] (fun u _ => u = .bool (p x))) (hd : Dat (.fn (.func g) fs cs)) (hfs : ∀ x ∈ fs, Dat x) (hcs : ∀ x ∈ cs, Dat x) :
    ICalls Tryz.prog 98 [.sl b (l.map eI), .fn (.func g) fs cs] [] (fun u _ => u = .int .i64 (fidx p l 0)) := by
  refine x_enter Tryz.func98 Tryz.ntmps98 ?_
  refine ic_seq ?_
  refine ic_region ?_
  refine x_op ?_
  refine il_nil ?_
  refine ic_seq ?_
  refine ic_seq ?_
  refine ic_region ?_
  refine x_op ?_
  refine x_op ?_
  refine x_op ?_
  refine il_nil ?_
  refine ic_block ?_ -- 0
  refine x_loop [8] [4, 5, 9, 10, 11, 12, 13, 14, 15, 16, 17, 18] (fun m vs σ => ∃ i : Nat, i ≤ l.length ∧ m = l.length - i ∧ vs = [.int .i64 i] ∧ σ = [] ∧ fidx p l 0 = fidx p (l.drop i) i) ⟨0, Nat.zero_le _, rfl, rfl, rfl, rfl⟩ ?_
  rintro m vs σ ⟨i, hi, rfl, rfl, rfl, hf⟩
  simp only [sets, nf]
  refine ic_seq ?_
  refine ic_region ?_
  refine x_op ?_
  refine il_nil ?_
  refine ic_seq ?_
  refine ic_cond rfl (fun hc => ?_) (fun hc => ?_) -- t9
  · -- true
    have hil : i < l.length := by have := of_decide_eq_true hc; omega
    have hix : (l.map eI)[((i : Nat) : Int).toNat]? = some (eI l[i]) := by simp [hil]
    have hdr : l.drop i = l[i] :: l.drop (i + 1) := List.drop_eq_getElem_cons hil
    have hdat : ∀ x ∈ fs ++ [eI l[i]] ++ cs, Dat x := fun x hx => by
      rcases List.mem_append.1 hx with hx | hx
      · rcases List.mem_append.1 hx with hx | hx
        · exact hfs x hx
        · rw [List.mem_singleton.1 hx]; exact dat_eI _
      · exact hcs x hx
    refine ic_skip ?_
    refine ic_seq ?_
    refine ic_block ?_ -- 1
    refine ic_seq ?_
    refine ic_region ?_
    refine x_op ?_
    refine x_op ?_
    refine il_nil ?_
    refine ic_seq ?_
    refine ic_region ?_
    refine x_op ?_
    refine x_op ?_
    refine x_op ?_
    refine x_op ?_
    refine x_op ?_
    refine x_callv ((hg l[i] (List.getElem_mem hil)).frame1 hdat (.bool _) _) ?_
    refine il_nil ?_
    rw [hdr, fidx] at hf
    refine ic_cond rfl (fun hc => ?_) (fun hc => ?_) -- t16
    · -- true
      rw [if_pos hc] at hf
      rw [hf]
      refine ic_seq ?_
      refine ic_region ?_
      refine x_op ?_
      refine x_op ?_
      refine il_nil ?_
      refine ic_ret ?_
      repeat (first | with_reducible refine it_ret ?_ | with_reducible refine ib_ret ?_)
      exact x_res1 Tryz.results98 rfl
    · -- false
      rw [if_neg (by rw [hc]; simp)] at hf
      refine ic_skip ?_
      refine ic_region ?_
      refine x_op ?_
      refine x_op ?_
      refine il_nil ?_
      exact x_next (l.length - (i + 1)) ⟨i + 1, by omega, rfl, rfl, rfl, hf⟩ (by omega) -- round
  · -- false
    obtain rfl : i = l.length := by have := of_decide_eq_false hc; omega
    rw [List.drop_length, fidx] at hf
    rw [hf]
    refine ic_exit ?_ -- 0
    refine ic_seq ?_
    refine ic_region ?_
    refine x_op ?_
    refine il_nil ?_
    refine ic_ret ?_
    repeat (first | with_reducible refine it_ret ?_ | with_reducible refine ib_ret ?_)
    exact x_res1 Tryz.results98 rfl
theorem cntFI_calls (l : List Int) (b : Bool) (g : Nat) (fs cs : List IV) (p : Int → Bool) (hl : l.length ≤ 4294967296) [FunC Tryz.prog g] (hg : ∀ x ∈ l, ICalls Tryz.prog g (fs ++ [eI x] ++ cs) [] (fun u _ => u = .bool (p x))) (hd : Dat (.fn (.func g) fs cs)) (hfs : ∀ x ∈ fs, Dat x) (hcs : ∀ x ∈ cs, Dat x) :
    ICalls Tryz.prog 76 [.sl b (l.map eI), .fn (.func g) fs cs] [] (fun u _ => u = .bool (l.any p)) := by
  have hany := fidx_any p l 0
  refine x_enter Tryz.func76 Tryz.ntmps76 ?_
  refine ic_seq ?_
  refine ic_region ?_
  refine x_op ?_
  refine il_nil ?_
  refine ic_seq ?_
  refine ic_region ?_
  refine x_op ?_
  refine x_op ?_
  refine x_cv (idxFI_calls l b g fs cs p hl hg hd hfs hcs) ?_ (hd := dat_cons (Dat.sl (dat_map dat_eI _)) (dat_cons hd dat_nil))
  refine x_op ?_
  refine x_op ?_
  refine il_nil ?_
  refine ic_ret ?_
  repeat (first | with_reducible refine it_ret ?_ | with_reducible refine ib_ret ?_)
  exact x_ret1v Tryz.results76 (he := congrArg IV.bool hany)
theorem cellsMay_calls (T : Str → Bool) (l : List Cel) (b : Bool) (hl : l.length ≤ 4294967296) (hT : ∀ c ∈ l, TargetOf T c.href) : ICalls Tryz.prog 78 [.sl b (l.map eC)] [] (fun u _ => u = .bool (!l.any (celNot T))) := by
  refine x_enter Tryz.func78 Tryz.ntmps78 ?_
  refine ic_seq ?_
  refine ic_region ?_
  refine x_op ?_
  refine il_nil ?_
  refine ic_seq ?_
  refine ic_region ?_
  refine x_op ?_
  refine x_cv (cntFC_calls l b 100 [] [] (celNot T) hl (fun x hx => celMay1_calls T x (hT x hx)) (Dat.fn dat_nil dat_nil) dat_nil dat_nil) ?_
  refine x_op ?_
  refine x_op ?_
  refine il_nil ?_
  refine ic_ret ?_
  repeat (first | with_reducible refine it_ret ?_ | with_reducible refine ib_ret ?_)
  exact x_res1 Tryz.results78 rfl
theorem lstNot_calls (k : Int) : ICalls Tryz.prog 77 [.int .i64 k] [] (fun u _ => u = .bool (lstNot k)) := by
  refine x_enter Tryz.func77 Tryz.ntmps77 ?_
  refine ic_seq ?_
  refine ic_region ?_
  refine x_op ?_
  refine il_nil ?_
  refine x_mid [2] [3, 4, 5, 6, 7, 8] (fun vs σ => vs = [.bool (!decide (k = 0) && !decide (k = 1))] ∧ σ = []) ?_ ?_
  · refine ic_region ?_
    repeat' (first | refine x_op ?_ | refine n_op ?_ | refine y_op ?_ | refine il_split (fun _ => ?_) (fun _ => ?_) | refine il_nil ?_)
    all_goals exact x_there
  rintro vs σ ⟨rfl, rfl⟩
  simp only [sets, nf]
  refine ic_ret ?_
  repeat (first | with_reducible refine it_ret ?_ | with_reducible refine ib_ret ?_)
  exact x_res1 Tryz.results77 rfl
theorem linMay_calls (T : Str → Bool) (l : Lin) (hl : l.cells.length ≤ 4294967296) (hT : ∀ c ∈ l.cells, TargetOf T c.href) (hl2 : l.lists.length ≤ 4294967296) : ICalls Tryz.prog 51 [eL l] [] (fun u _ => u = .bool (linMay T l)) := by
  refine x_enter Tryz.func51 Tryz.ntmps51 ?_
  refine ic_seq ?_
  refine ic_region ?_
  refine x_op ?_
  refine x_op ?_
  refine il_nil ?_
  refine ic_seq ?_
  refine ic_block ?_ -- 0
  refine x_mid [3] [4, 5, 6, 7, 8, 9, 10, 11, 12, 13, 14, 15, 16, 17, 18, 19, 20, 21, 22, 23, 24, 25, 26, 27] (fun vs σ => vs = [.bool ((((decide (l.quote < 0) || decide (6 < l.quote)) || decide (6 < (l.lists.length : Int))) || decide (l.kind < 0)) || decide (3 < l.kind))] ∧ σ = [.box 31 (lnc l)]) ?_ ?_
  · refine ic_region ?_
    repeat' (first | refine x_op ?_ | refine n_op ?_ | refine y_op ?_ | refine il_split (fun _ => ?_) (fun _ => ?_) | refine il_nil ?_)
    all_goals exact x_there
  rintro vs σ ⟨rfl, rfl⟩
  simp only [sets, nf]
  refine ic_cond rfl (fun h1 => ?_) (fun h1 => ?_) -- t3
  · -- true
    refine ic_seq ?_
    refine ic_region ?_
    refine x_op ?_
    refine il_nil ?_
    refine ic_ret ?_
    repeat (first | with_reducible refine it_ret ?_ | with_reducible refine ib_ret ?_)
    exact x_ret1v Tryz.results51 (he := by rw [linMay, lin1, h1]; rfl)
  refine x_mid [28] [29, 30, 31, 32, 33, 34, 35, 36, 37] (fun vs σ => vs = [.bool (decide (0 < (l.lists.length : Int)) && !decide (l.kind = 0))] ∧ σ = [.box 31 (lnc l)]) ?_ ?_
  · refine ic_region ?_
    repeat' (first | refine x_op ?_ | refine n_op ?_ | refine y_op ?_ | refine il_split (fun _ => ?_) (fun _ => ?_) | refine il_nil ?_)
    all_goals exact x_there
  rintro vs σ ⟨rfl, rfl⟩
  simp only [sets, nf]
  refine ic_cond rfl (fun h2 => ?_) (fun h2 => ?_) -- t28
  · -- true
    refine ic_seq ?_
    refine ic_region ?_
    refine x_op ?_
    refine il_nil ?_
    refine ic_ret ?_
    repeat (first | with_reducible refine it_ret ?_ | with_reducible refine ib_ret ?_)
    exact x_ret1v Tryz.results51 (he := by rw [linMay, lin1, h1, lin2, h2]; rfl)
  refine ic_skip ?_
  refine x_mid [2] [38, 39, 40, 41, 42, 43, 44, 45, 46] (fun vs σ => vs = [.bool (!(l.lists.any lstNot) && !(l.cells.any (celNot T)))] ∧ σ = [.box 31 (lnc l)]) ?_ ?_
  · refine ic_region ?_
    refine x_op ?_
    refine x_op ?_
    refine x_cv (cntFI_calls l.lists false 77 [] [] lstNot hl2 (fun x hx => lstNot_calls x) (Dat.fn dat_nil dat_nil) dat_nil dat_nil) ?_
    repeat' (first | refine x_op ?_ | refine n_op ?_ | refine x_cv (cellsMay_calls T l.cells false hl hT) ?_ | refine y_cv (cellsMay_calls T l.cells false hl hT) ?_ | refine y_op ?_ | refine il_split (fun _ => ?_) (fun _ => ?_) | refine il_nil ?_)
    all_goals exact x_there
  rintro vs σ ⟨rfl, rfl⟩
  simp only [sets, nf]
  refine ic_ret ?_
  repeat (first | with_reducible refine it_ret ?_ | with_reducible refine ib_ret ?_)
  exact x_ret1v Tryz.results51 (he := by rw [linMay, lin1, h1, lin2, h2]; rfl)
theorem dsize_calls (d : List Lin) (b : Bool) (hl : d.length ≤ 4294967296) (hs : dsize d ≤ 1099511627776) : ICalls Tryz.prog 48 [.sl b (d.map eL)] [] (fun u _ => u = .int .i64 (dsize d : Nat)) := by
  refine x_enter Tryz.func48 Tryz.ntmps48 ?_
  refine ic_seq ?_
  refine ic_region ?_
  refine x_op ?_
  refine il_nil ?_
  refine ic_seq ?_
  refine ic_region ?_
  refine x_op ?_
  refine il_nil ?_
  refine ic_seq ?_
  refine ic_seq ?_
  refine ic_region ?_
  refine x_op ?_
  refine x_op ?_
  refine x_op ?_
  refine il_nil ?_
  refine ic_block ?_ -- 0
  refine x_loop [3, 8] [5, 9, 10, 11, 12, 13, 14, 15, 16, 17] (fun m vs σ => ∃ i : Nat, i ≤ d.length ∧ m = d.length - i ∧ vs = [.int .i64 (dsize (d.take i) : Nat), .int .i64 i] ∧ σ = []) ⟨0, Nat.zero_le _, rfl, rfl, rfl⟩ ?_
  rintro m vs σ ⟨i, hi, rfl, rfl, rfl⟩
  simp only [sets, nf]
  refine ic_seq ?_
  refine ic_region ?_
  refine x_op ?_
  refine il_nil ?_
  refine ic_seq ?_
  refine ic_cond rfl (fun hc => ?_) (fun hc => ?_) -- t9
  · -- true
    have hil : i < d.length := by have := of_decide_eq_true hc; omega
    have hix : (d.map eL)[((i : Nat) : Int).toNat]? = some (eL d[i]) := by simp [hil]
    have h1 := dsize_take d i hil
    have h2 := dsize_take_le d (i + 1)
    refine ic_skip ?_
    refine ic_seq ?_
    refine ic_block ?_ -- 1
    refine ic_seq ?_
    refine ic_region ?_
    refine x_op ?_
    refine x_op ?_
    refine x_op ?_
    refine x_op ?_
    refine il_nil ?_
    refine ic_region ?_
    refine x_op ?_
    refine x_op ?_
    refine x_op ?_
    refine x_op ?_
    refine x_op ?_
    refine x_op ?_
    refine il_nil ?_
    refine ic_region ?_
    refine x_op ?_
    refine x_op ?_
    refine il_nil ?_
    rw [show ((dsize (d.take i) : Nat) : Int) + (d[i].cells.length : Int) = ((dsize (d.take (i + 1)) : Nat) : Int) by omega]
    exact x_next (d.length - (i + 1)) ⟨i + 1, by omega, rfl, rfl, rfl⟩ (by omega) -- round
  · -- false
    obtain rfl : i = d.length := by have := of_decide_eq_false hc; omega
    rw [List.take_length]
    refine ic_exit ?_ -- 0
    refine ic_seq ?_
    refine ic_region ?_
    refine x_op ?_
    refine x_op ?_
    refine il_nil ?_
    refine ic_ret ?_
    repeat (first | with_reducible refine it_ret ?_ | with_reducible refine ib_ret ?_)
    exact x_res1 Tryz.results48 rfl
/-- What is taken of a document: its links' targets; how long it is. -/
structure DocIn (T : Str → Bool) (d : List Lin) : Prop where
  t : ∀ l ∈ d, ∀ c ∈ l.cells, TargetOf T c.href
  n : d.length ≤ 4294967296
  c : dsize d ≤ 16777216
  l : ∀ l ∈ d, l.lists.length ≤ 16777216
theorem DocIn.cells {T : Str → Bool} {d : List Lin} (h : DocIn T d) : ∀ l ∈ d, l.cells.length ≤ 16777216 := fun l hl => by
  have hc := h.c
  have : l.cells.length ≤ dsize d := by
    have : ∀ d : List Lin, l ∈ d → l.cells.length ≤ dsize d := by
      intro d
      induction d with
      | nil => intro h; cases h
      | cons x d ih =>
        intro h
        simp only [dsize, List.map_cons, List.sum_cons] at ih ⊢
        rcases List.mem_cons.1 h with rfl | h
        · omega
        · have := ih h; omega
    exact this d hl
  omega
theorem docMay1_calls (T : Str → Bool) (l : Lin) (hl : l.cells.length ≤ 4294967296) (hT : ∀ c ∈ l.cells, TargetOf T c.href) (hl2 : l.lists.length ≤ 4294967296) : ICalls Tryz.prog 50 [eL l] [] (fun u _ => u = .bool (!linMay T l)) := by
  refine x_enter Tryz.func50 Tryz.ntmps50 ?_
  refine ic_seq ?_
  refine ic_region ?_
  refine x_op ?_
  refine x_op ?_
  refine il_nil ?_
  refine ic_seq ?_
  refine ic_region ?_
  refine x_op ?_
  refine x_cv (linMay_calls T l hl hT hl2) ?_
  refine x_op ?_
  refine x_op ?_
  refine il_nil ?_
  refine ic_ret ?_
  repeat (first | with_reducible refine it_ret ?_ | with_reducible refine ib_ret ?_)
  exact x_res1 Tryz.results50 rfl
theorem docMay_calls (T : Str → Bool) (d : List Lin) (b : Bool) (h : DocIn T d) : ICalls Tryz.prog 28 [.sl b (d.map eL)] [] (fun u _ => u = .bool (docMay T d)) := by
  have hn := h.n
  have hz := h.c
  refine x_enter Tryz.func28 Tryz.ntmps28 ?_
  refine ic_seq ?_
  refine ic_region ?_
  refine x_op ?_
  refine il_nil ?_
  refine x_mid [2] [3, 4, 5, 6, 7, 8, 9, 10, 11, 12, 13, 14, 15, 16, 17, 18, 19, 20] (fun vs σ => vs = [.bool (((decide (1 ≤ (d.length : Int)) && decide ((d.length : Int) ≤ 200)) && decide ((dsize d : Int) ≤ 4000)) && !(d.any fun l => !linMay T l))] ∧ σ = []) ?_ ?_
  · refine ic_region ?_
    repeat' (first | refine x_op ?_ | refine n_op ?_ | refine x_cv (dsize_calls d b hn (by omega)) ?_ | refine y_cv (dsize_calls d b hn (by omega)) ?_ | refine x_cv (cntFL_calls d b 50 [] [] (fun l => !linMay T l) hn (fun x hx => docMay1_calls T x (by have := h.cells x hx; omega) (h.t x hx) (by have := h.l x hx; omega)) (Dat.fn dat_nil dat_nil) dat_nil dat_nil) ?_ | refine y_cv (cntFL_calls d b 50 [] [] (fun l => !linMay T l) hn (fun x hx => docMay1_calls T x (by have := h.cells x hx; omega) (h.t x hx) (by have := h.l x hx; omega)) (Dat.fn dat_nil dat_nil) dat_nil dat_nil) ?_ | refine y_op ?_ | refine il_split (fun _ => ?_) (fun _ => ?_) | refine il_nil ?_)
    all_goals exact x_there
  rintro vs σ ⟨rfl, rfl⟩
  simp only [sets, nf]
  refine ic_ret ?_
  repeat (first | with_reducible refine it_ret ?_ | with_reducible refine ib_ret ?_)
  exact x_res1 Tryz.results28 rfl
end Go.Proofs.YtokbhcnomffopaaGreatDoor
end

section
/- QL, part y: slices that are made, cut and copied within one row of the call's own (elements of one cell). Plain; no program in sight. -/
set_option linter.unusedVariables false
set_option linter.unusedSimpArgs false
namespace Go.QL
open Go Go.RowKit

section
variable {P : Program} {r : RN} {o : Oper} {e : Val2} {σ : List IObj}
theorem heap_new (w : World) (o : Obj) : (w.alloc o).heap[w.heap.size]? = some o := by
  show (w.heap.push o)[w.heap.size]? = some o
  simp
theorem exec_copy {T T' : TypeId} {A : Act} {w w' : World} {s x : Operand} {v' : Value} (ho : o.op = .call { callee := .builtin .copy, args := #[s, x], argTypes := #[T, T'] }) (h : (Builtin.copy_ #[T, T'] o.type #[A.eval s, A.eval x]).run P w = .ok v' w') :
    (execOp A.eval o).run P w = .ok (.value v') w' := by
  simp [execOp, ho, resolve, invoke, builtin, Sem.run_bind, h, Result.andThen]
theorem flats_rep (u : IV) (h : flat u = [u]) : ∀ n, flats (List.replicate n u) = List.replicate n u
  | 0 => rfl
  | n + 1 => by
    have := flats_rep u h n
    simp only [flats, List.replicate_succ, List.flatMap_cons] at this ⊢
    rw [this, h]; rfl
theorem op_makeSlice {T E : TypeId} {x y : Operand} {z : Value} {bytes : Nat} {kl kc : IntKind} {n : Nat} {u : IV} (hT : P.underlying T = some (.slice E)) (hE : Ty P E false z 1 bytes) (hz : z.cells = #[z]) (ho : o.op = .makeSlice T x y) (hx : e x = .int kl n) (hy : e y = .int kc n) (hu : cst1 z = u) (hf : flat u = [u])
    (hb : bytes * n ≤ 281474976710656) (hm : n ≤ 140737488355328) : OpQ P r o e σ (.row σ.length n) (σ ++ [.row E 1 (List.replicate n u)]) := by
  subst hu
  refine opk_val (by rw [ho]; rfl) fun W0 D ρ w A hst ha => ?_
  have h1 := ha x (by simp [ho, Op.operands]); rw [hx] at h1
  have h2 := ha y (by simp [ho, Op.operands]); rw [hy] at h2
  obtain ⟨i, hi, hiz, his, hib⟩ := hE.info
  have hbz : (i.bytes : Int) * (n : Int) ≤ 281474976710656 := by
    have h : ((bytes * n : Nat) : Int) ≤ 281474976710656 := by omega
    rw [hib]
    rwa [Int.natCast_mul] at h
  have hrun := run_make (P := P) w T E i z hT hi hiz kl kc n n (by omega) (Int.le_refl _) hbz (by omega)
  simp only [Int.toNat_natCast, his, Nat.mul_one] at hrun
  have hcells : (madeCells z.cells n).toList = List.replicate n z := by rw [hz]; exact toList_madeCells_one z n
  have hsz : (madeCells z.cells n).size = n := by rw [← Array.length_toList, hcells, List.length_replicate]
  have hro : RowOk (w.alloc (.cells (madeCells z.cells n) E)) 0 E 1 (.slice (some ⟨w.heap.size, 0, none⟩) n n) n (List.replicate n z) := by
    refine ⟨by simp, ?_⟩
    rcases Nat.eq_zero_or_pos n with h0 | h0
    · subst h0; exact .inl ⟨rfl, _, rfl⟩
    · refine .inr ⟨w.heap.size, n, madeCells z.cells n, h0, rfl, Nat.zero_le _, heap_new w _, Nat.le_refl _, by unfold maxLen; omega, by rw [hsz, Nat.mul_one], ?_⟩
      rw [Nat.mul_one, hcells, List.take_of_length_le (by simp)]
  have hbk : hblk (.slice (some ⟨w.heap.size, 0, none⟩) n n) = none ∨ (hblk (.slice (some ⟨w.heap.size, 0, none⟩) n n) = some w.heap.size ∧ w.heap.size < (w.alloc (.cells (madeCells z.cells n) E)).heap.size) := by
    rcases Nat.eq_zero_or_pos n with h0 | h0
    · subst h0; exact .inl rfl
    · refine .inr ⟨?_, by simp⟩
      simp only [hblk]; rw [if_neg (by omega)]
  have hrep : ∀ (D : DM) (ρ : List Slot), Rel2 D ρ (flats (List.replicate n (cst1 z))) (List.replicate n z) := fun D ρ => by
    rw [flats_rep _ hf]
    refine ⟨by simp, fun i u v e1 e2 => ?_⟩
    rw [List.eq_of_mem_replicate (List.mem_of_getElem? e1), List.eq_of_mem_replicate (List.mem_of_getElem? e2)]
    exact vr_cst1 _ _ z
  obtain ⟨h3, h4⟩ := hst.pushRow (n := n) (v := .slice (some ⟨w.heap.size, 0, none⟩) n n) (World.grownBy_alloc w _ none) hbk (.row E 1 (List.replicate n (cst1 z))) fun x => ⟨by simp, (fun y hy => by rw [List.eq_of_mem_replicate hy, hf]; rfl), by omega, _, hro, hrep _ _⟩
  refine ⟨D, _, _, _, _, _, by simp only [execOp, ho, h1.int_inv, h2.int_inv, Sem.run_bind, hrun, Result.andThen_ok]; rfl, h4, h3, ?_, rfl, rfl⟩
  refine .row _ _ _ _ ?_
  unfold RowAt
  rw [← hst.len, List.getElem?_append_right (Nat.le_refl _), Nat.sub_self]
  exact ⟨Nat.le_refl _, fun _ => rfl⟩
/-- A part of a row of the call's own. -/
theorem op_sliceRl {T E E0 : TypeId} {x l : Operand} {z : Value} {bytes k n : Nat} {agg : Bool} {xs : List IV} {kl : IntKind} {m : Int} (hT : P.underlying T = some (.slice E0)) (hE : Ty P E0 agg z 1 bytes) (ho : o.op = .slice T x (some l) none none) (hx : e x = .row k n) (hl : e l = .int kl m) (hk : σ[k]? = some (.row E 1 xs)) (hn : n = xs.length)
    (h0 : 0 ≤ m) (h1 : m < n) : OpQ P r o e σ (.rsub k n m.toNat (n - m.toNat)) σ := by
  subst hn
  refine opq_pure (by rw [ho]; rfl) fun W0 D ρ w A hs ha => ?_
  have e1 := ha x (by simp [ho, Op.operands]); rw [hx] at e1
  have e2 := ha l (by simp [ho, Op.operands]); rw [hl] at e2; have e2 := e2.int_inv
  obtain ⟨v, hρ, hfl, hsz, vs, hro, hrel⟩ := hs.row_at hk
  have hv := e1.row_eq hρ
  rcases hro.2 with ⟨h, _⟩ | ⟨g, cap, cur, hc, rfl, hg0, hh, hnc, hcm, hcs, htake⟩
  · omega
  · refine ⟨.slice (some ⟨g, m.toNat, none⟩) (xs.length - m.toNat) (cap - m.toNat), ?_, .rsub _ _ _ _ _ _ ?_⟩
    · have hne : ¬ cap = m.toNat := by omega
      simp [execOp, ho, e2, hv, Instr.sliceAt, Instr.slice, Instr.sliceBounds, Instr.sliceBound, asIntOf, Sem.run_bind, run_underlying hT, Result.andThen, h0, show m ≤ (xs.length : Int) by omega, hE.sizeOf, Addr_add, hne]
    · unfold EltAt
      rw [hρ]
      exact ⟨Nat.le_refl _, fun _ => ⟨g, by simp [hblk]; omega, rfl⟩⟩
theorem op_sliceRh {T E E0 : TypeId} {x l : Operand} {z : Value} {bytes k n : Nat} {agg : Bool} {xs : List IV} {kl : IntKind} {m : Int} (hT : P.underlying T = some (.slice E0)) (hE : Ty P E0 agg z 1 bytes) (ho : o.op = .slice T x none (some l) none) (hx : e x = .row k n) (hl : e l = .int kl m) (hk : σ[k]? = some (.row E 1 xs)) (hn : n = xs.length)
    (h0 : 0 < n) (h1 : 0 ≤ m) (h2 : m ≤ n) : OpQ P r o e σ (.rsub k n 0 m.toNat) σ := by
  subst hn
  refine opq_pure (by rw [ho]; rfl) fun W0 D ρ w A hs ha => ?_
  have e1 := ha x (by simp [ho, Op.operands]); rw [hx] at e1
  have e2 := ha l (by simp [ho, Op.operands]); rw [hl] at e2; have e2 := e2.int_inv
  obtain ⟨v, hρ, hfl, hsz, vs, hro, hrel⟩ := hs.row_at hk
  have hv := e1.row_eq hρ
  rcases hro.2 with ⟨h, _⟩ | ⟨g, cap, cur, hc, rfl, hg0, hh, hnc, hcm, hcs, htake⟩
  · omega
  · refine ⟨.slice (some ⟨g, 0, none⟩) m.toNat cap, ?_, .rsub _ _ _ _ _ _ ?_⟩
    · have hne : ¬ cap = 0 := by omega
      simp [execOp, ho, e2, hv, Instr.sliceAt, Instr.slice, Instr.sliceBounds, Instr.sliceBound, asIntOf, Sem.run_bind, run_underlying hT, Result.andThen, h1, show m ≤ (cap : Int) by omega, hE.sizeOf, Addr_add, hne]
    · unfold EltAt
      rw [hρ]
      exact ⟨Nat.le_refl _, fun _ => ⟨g, by simp [hblk]; omega, rfl⟩⟩
theorem flats_one {xs : List IV} (h : ∀ x ∈ xs, flat x = [x]) : flats xs = xs := by
  induction xs with
  | nil => rfl
  | cons x xs ih =>
    have := ih fun y hy => h y (List.mem_cons_of_mem _ hy)
    simp only [flats, List.flatMap_cons] at this ⊢
    rw [this, h x (List.mem_cons_self ..)]; rfl
/-- copy within one row of the call's own. -/
theorem op_copyR {T T' E : TypeId} {s x : Operand} {z : Value} {bytes k n m len : Nat} {agg : Bool} {xs : List IV} (hT : P.underlying T = some (.slice E)) (hE : Ty P E agg z 1 bytes) (ho : o.op = .call { callee := .builtin .copy, args := #[s, x], argTypes := #[T, T'] }) (hs1 : e s = .rsub k n m (n - m)) (hx : e x = .rsub k n 0 len)
    (hk : σ[k]? = some (.row E 1 xs)) (hn : n = xs.length) (hm : m < n) (hlen : len ≤ n) (hgo : ∀ x ∈ xs, flat x = [x]) (hone : ∀ x ∈ xs, x.one = true) :
    OpQ P r o e σ (.int .i64 (min len (n - m) : Nat)) (σ.set k (.row E 1 (xs.take m ++ xs.take (min len (n - m)) ++ xs.drop (m + min len (n - m))))) := by
  subst hn
  refine opk_val (by rw [ho]; rfl) fun W0 D ρ w A hs ha => ?_
  have h1 := ha s (by simp [ho, Op.operands, Call.operands]); rw [hs1] at h1
  have h2 := ha x (by simp [ho, Op.operands, Call.operands]); rw [hx] at h2
  obtain ⟨v, hρ, hfl, hsz, vs, hro, hrel⟩ := hs.row_at hk
  rw [flats_one hgo] at hrel
  rcases hro.2 with ⟨h, _⟩ | ⟨g, cap, cur, hc, rfl, hg0, hh, hnc, hcm, hcs, htake⟩
  · omega
  · have hb0 : hblk (.slice (some ⟨g, 0, none⟩) xs.length cap) = some g := by simp [hblk]; omega
    have hrs : ∀ {off l : Nat} {val : Value}, VR D ρ (.rsub k xs.length off l) val → ∃ c, val = .slice (some ⟨g, off, none⟩) l c := by
      intro off l val h
      cases h with
      | rsub _ _ _ _ A c h =>
        unfold EltAt at h
        rw [hρ] at h
        obtain ⟨b, e1, e2⟩ := h.2 rfl
        rw [hb0] at e1
        cases e1
        exact ⟨c, by rw [e2]⟩
    obtain ⟨c1, hv1⟩ := hrs h1
    obtain ⟨c2, hv2⟩ := hrs h2
    simp only [Nat.mul_one] at hcs htake
    have hvl : vs.length = xs.length := by have := hro.1; omega
    have hcur : cur.toList.take xs.length = vs := htake
    have hq : min len (xs.length - m) ≤ xs.length := by omega
    have hsrc : ∀ j v, (vs.take (min len (xs.length - m)))[j]? = some v → w.cell? ((⟨g, 0, none⟩ : Addr).add j) = some v := by
      intro j v ej
      rw [Addr_add, Nat.zero_add, cells_at hh]
      rw [List.getElem?_take] at ej
      split at ej
      · rw [← hcur, List.getElem?_take] at ej
        split at ej
        · simpa using ej
        · cases ej
      · cases ej
    have hl4 : (vs.take (min len (xs.length - m))).length = min len (xs.length - m) := by rw [List.length_take]; omega
    have hrun := run_copy_row (P := P) w T T' o.type E g m (xs.length - m) c1 ⟨g, 0, none⟩ len c2 cur E (vs.take (min len (xs.length - m))) hT (by obtain ⟨i, hi, _, his, _⟩ := hE.info; rw [hi]; simp [his]) hh hl4 hsrc (by rw [hl4]; omega) (fun v hv => by
      have hv2 := List.mem_of_mem_take hv
      obtain ⟨j, hj⟩ := List.getElem?_of_mem hv2
      have hjl : j < xs.length := by rw [← hvl]; exact (List.getElem?_eq_some_iff.1 hj).1
      exact (hrel.2 j xs[j] v (List.getElem?_eq_getElem hjl) hj).one (hone _ (List.getElem_mem hjl)))
    rw [hl4] at hrun
    have hcl : cur.toList.length = cap := by simpa using hcs
    refine ⟨D, ρ, .int .i64 (min len (xs.length - m) : Nat), .int .i64 (min len (xs.length - m) : Nat), _, _, ?_, .refl _ _, hs.set hρ hb0 (.row E 1 (xs.take m ++ xs.take (min len (xs.length - m)) ++ xs.drop (m + min len (xs.length - m)))) ⟨?_, ?_, by omega, vs.take m ++ vs.take (min len (xs.length - m)) ++ vs.drop (m + min len (xs.length - m)), ⟨?_, .inr ⟨g, cap, (cur.toList.take m ++ vs.take (min len (xs.length - m)) ++ cur.toList.drop (m + min len (xs.length - m))).toArray, hc, rfl, hg0, setRow_heap w g cur _ E _ hh, hnc, hcm, ?_, ?_⟩⟩, ?_⟩ rfl rfl rfl (by simp) (fun i hi => setRow_other w g i _ hi), .int _ _, rfl, rfl⟩
    · exact exec_copy ho (by rw [hv1, hv2]; exact hrun)
    · simp only [List.length_append, List.length_take, List.length_drop]; omega
    · intro y hy
      rcases List.mem_append.1 hy with hy | hy
      · rcases List.mem_append.1 hy with hy | hy
        · rw [hgo y (List.mem_of_mem_take hy)]; rfl
        · rw [hgo y (List.mem_of_mem_take hy)]; rfl
      · rw [hgo y (List.mem_of_mem_drop hy)]; rfl
    · simp only [List.length_append, List.length_take, List.length_drop, hvl]; omega
    · simp only [List.size_toArray, List.length_append, List.length_take, List.length_drop, hl4, hcl, Nat.mul_one, hvl]; omega
    · rw [Nat.mul_one]
      apply List.ext_getElem?
      intro i
      rw [List.getElem?_take, List.append_assoc, List.append_assoc]
      rw [get3 _ _ _ m (min len (xs.length - m)) i (by rw [List.length_take]; omega) hl4, get3 _ _ _ m (min len (xs.length - m)) i (by rw [List.length_take, hvl]; omega) hl4]
      rw [← hcur]
      simp only [List.getElem?_take, List.getElem?_drop]
      rcases Nat.lt_or_ge i xs.length with hi | hi
      · rw [if_pos hi]
        split
        · simp [hi]
        · split
          · rfl
          · rename_i h3 h4
            rw [if_pos (by omega)]
      · rw [if_neg (by omega)]
        rw [if_neg (by omega), if_neg (by omega), if_neg (by omega)]
    · have hf2 : ∀ ys : List IV, (∀ y ∈ ys, y ∈ xs) → flats ys = ys := fun ys h => flats_one fun y hy => hgo y (h y hy)
      rw [hf2 _ (fun y hy => by
        rcases List.mem_append.1 hy with hy | hy
        · rcases List.mem_append.1 hy with hy | hy
          · exact List.mem_of_mem_take hy
          · exact List.mem_of_mem_take hy
        · exact List.mem_of_mem_drop hy)]
      refine (Rel2.append (Rel2.append ?_ ?_) ?_)
      · exact (hrel.sub 0 m)
      · exact (hrel.sub 0 (min len (xs.length - m)))
      · have := hrel.sub (m + min len (xs.length - m)) (xs.length)
        rw [List.take_of_length_le (by rw [List.length_drop]; omega), List.take_of_length_le (by rw [List.length_drop]; omega)] at this
        exact this
/-- copy from the beginning of what is done to the beginning of a row of the call's own. -/
theorem op_copyS {T T' E : TypeId} {s x : Operand} {z : Value} {bytes k n : Nat} {agg : Bool} {xs ys : List IV} (hT : P.underlying T = some (.slice E)) (hE : Ty P E agg z 1 bytes) (ho : o.op = .call { callee := .builtin .copy, args := #[s, x], argTypes := #[T, T'] }) (hs1 : e s = .row k n) (hx : srcOf (e x) = some ys)
    (hk : σ[k]? = some (.row E 1 xs)) (hn : n = xs.length) (hgo : ∀ x ∈ xs, flat x = [x]) (hgy : ∀ x ∈ ys, flat x = [x]) (hgood : Good 1 ys) (hy0 : 0 < ys.length) :
    OpQ P r o e σ (.int .i64 (min ys.length n : Nat)) (σ.set k (.row E 1 (ys.take (min ys.length n) ++ xs.drop (min ys.length n)))) := by
  subst hn
  refine opk_val (by rw [ho]; rfl) fun W0 D ρ w A hs ha => ?_
  have h1 := ha s (by simp [ho, Op.operands, Call.operands]); rw [hs1] at h1
  have h2 := ha x (by simp [ho, Op.operands, Call.operands])
  obtain ⟨v, hρ, hfl, hsz, vs, hro, hrel⟩ := hs.row_at hk
  have hv := h1.row_eq hρ
  obtain ⟨C, c2, news, hxv, hnl, hnrel, hone, hread⟩ := src_inv hs h2 hx hgood (by omega)
  obtain ⟨a, rfl, hrd⟩ := hread hy0
  rw [flats_one hgy] at hnrel
  rw [flats_one hgo] at hrel
  have hinfo : (P.info? E).map (·.size) = some 1 := by obtain ⟨i, hi, _, his, _⟩ := hE.info; rw [hi]; simp [his]
  rw [Nat.mul_one] at hnl
  rcases hro.2 with ⟨h0, B, rfl⟩ | ⟨g, cap, cur, hc, rfl, hg0, hh, hnc, hcm, hcs, htake⟩
  · have hx0 : xs = [] := List.eq_nil_of_length_eq_zero h0
    subst hx0
    have hrun := run_copy_none (P := P) w T T' o.type E B (some a) 0 0 ys.length c2 hT hinfo (by simp)
    have hσ : σ.set k (.row E 1 (ys.take (min ys.length 0) ++ ([] : List IV).drop (min ys.length 0))) = σ := by
      apply List.ext_getElem?
      intro i
      by_cases hi : k = i
      · subst hi; rw [List.getElem?_set_self (List.getElem?_eq_some_iff.1 hk).1, hk]; simp
      · rw [List.getElem?_set_ne hi]
    simp only [List.length_nil]
    exact ⟨D, ρ, .int .i64 0, .int .i64 0, σ, w, exec_copy ho (by rw [hv, hxv]; exact hrun), .refl _ _, hs, .int .i64 0, by simp, hσ.symm⟩
  · have hb0 : hblk (.slice (some ⟨g, 0, none⟩) xs.length cap) = some g := by simp [hblk]; omega
    simp only [Nat.mul_one] at hcs htake
    have hvl : vs.length = xs.length := by have := hro.1; omega
    have hl4 : (news.take (min ys.length xs.length)).length = min ys.length xs.length := by rw [List.length_take]; omega
    have hcl : cur.toList.length = cap := by simpa using hcs
    have hrun := run_copy_row (P := P) w T T' o.type E g 0 xs.length cap a ys.length c2 cur E (news.take (min ys.length xs.length)) hT hinfo hh hl4 (fun j v ej => by
      rw [List.getElem?_take] at ej
      split at ej
      · exact hrd j v ej
      · cases ej) (by rw [hl4]; omega) (fun v hv => hone v (List.mem_of_mem_take hv))
    rw [hl4] at hrun
    simp only [List.take_zero, List.nil_append, Nat.zero_add] at hrun
    refine ⟨D, ρ, .int .i64 (min ys.length xs.length : Nat), .int .i64 (min ys.length xs.length : Nat), _, _, exec_copy ho (by rw [hv, hxv]; exact hrun), .refl _ _, hs.set hρ hb0 (.row E 1 (ys.take (min ys.length xs.length) ++ xs.drop (min ys.length xs.length))) ⟨?_, ?_, by omega, news.take (min ys.length xs.length) ++ vs.drop (min ys.length xs.length), ⟨?_, .inr ⟨g, cap, (news.take (min ys.length xs.length) ++ cur.toList.drop (min ys.length xs.length)).toArray, hc, rfl, hg0, setRow_heap w g cur _ E _ hh, hnc, hcm, ?_, ?_⟩⟩, ?_⟩ rfl rfl rfl (by simp) (fun i hi => setRow_other w g i _ hi), .int _ _, rfl, rfl⟩
    · simp only [List.length_append, List.length_take, List.length_drop]; omega
    · intro y hy
      rcases List.mem_append.1 hy with hy | hy
      · rw [hgy y (List.mem_of_mem_take hy)]; rfl
      · rw [hgo y (List.mem_of_mem_drop hy)]; rfl
    · simp only [List.length_append, List.length_drop, hl4, hvl]; omega
    · simp only [List.size_toArray, List.length_append, List.length_drop, hl4, hcl, Nat.mul_one]; omega
    · rw [Nat.mul_one, List.take_append, hl4, List.take_of_length_le (by rw [hl4]; omega), ← htake, List.drop_take]
    · have hf2 : flats (ys.take (min ys.length xs.length) ++ xs.drop (min ys.length xs.length)) = ys.take (min ys.length xs.length) ++ xs.drop (min ys.length xs.length) := flats_one fun y hy => by
        rcases List.mem_append.1 hy with hy | hy
        · exact hgy y (List.mem_of_mem_take hy)
        · exact hgo y (List.mem_of_mem_drop hy)
      rw [hf2]
      refine Rel2.append (hnrel.sub 0 _) ?_
      have := hrel.sub (min ys.length xs.length) (xs.length)
      rw [List.take_of_length_le (by rw [List.length_drop]; omega), List.take_of_length_le (by rw [List.length_drop]; omega)] at this
      exact this
end
/-- What stands after so many have been copied. -/
def repR (v : IV) (n c : Nat) : List IV := List.replicate c v ++ List.replicate (n - c) (.int .i64 0)
theorem repR_len (v : IV) (n c : Nat) (h : c ≤ n) : (repR v n c).length = n := by simp [repR]; omega
theorem repR_flat (v : IV) (n c : Nat) (h : flat v = [v]) : ∀ x ∈ repR v n c, flat x = [x] := by
  intro x hx
  rcases List.mem_append.1 hx with hx | hx
  · rw [List.eq_of_mem_replicate hx]; exact h
  · rw [List.eq_of_mem_replicate hx]; rfl
theorem repR_one (v : IV) (n c : Nat) (h : v.one = true) : ∀ x ∈ repR v n c, x.one = true := by
  intro x hx
  rcases List.mem_append.1 hx with hx | hx
  · rw [List.eq_of_mem_replicate hx]; exact h
  · rw [List.eq_of_mem_replicate hx]; rfl
theorem repR_first (v : IV) (n : Nat) : [v].take (min [v].length n) ++ (repR v n 0).drop (min [v].length n) = repR v n (min 1 n) := by
  rcases n with _ | n
  · simp [repR]
  · have : min 1 (n + 1) = 1 := by omega
    simp [repR, this, List.replicate_succ]
theorem repR_step (v : IV) (n c q : Nat) (h : c ≤ n) (hq : q ≤ c) (hq2 : q ≤ n - c) : (repR v n c).take c ++ (repR v n c).take q ++ (repR v n c).drop (c + q) = repR v n (c + q) := by
  unfold repR
  rw [List.take_left' (by simp), List.take_append_of_le_length (by simpa using hq), List.take_replicate, List.drop_append, List.drop_replicate, List.drop_replicate, Nat.min_eq_left hq, List.replicate_append_replicate]
  simp only [List.length_replicate]
  rw [show c - (c + q) = 0 by omega, List.replicate_zero, List.nil_append, show n - c - (c + q - c) = n - (c + q) by omega]
section
variable {P : Program} {r : RN} {o : Oper} {e : Val2} {σ : List IObj}
theorem op_rep1 {T T' E : TypeId} {s x : Operand} {z : Value} {bytes k n : Nat} {agg full : Bool} {v : IV} (hT : P.underlying T = some (.slice E)) (hE : Ty P E agg z 1 bytes) (ho : o.op = .call { callee := .builtin .copy, args := #[s, x], argTypes := #[T, T'] }) (hs1 : e s = .row k n) (hx : e x = .sl full [v])
    (hk : σ[k]? = some (.row E 1 (repR v n 0))) (hv : flat v = [v]) (hg : Good 1 [v]) : OpQ P r o e σ (.int .i64 (min 1 n : Nat)) (σ.set k (.row E 1 (repR v n (min 1 n)))) := by
  have := op_copyS (r := r) (ys := [v]) hT hE ho hs1 (by rw [hx]; rfl) hk (repR_len _ _ _ (Nat.zero_le _)).symm (repR_flat _ _ _ hv) (fun x hx => by rw [List.mem_singleton.1 hx]; exact hv) hg Nat.zero_lt_one
  rw [repR_first] at this
  exact this
theorem op_repN {T T' E : TypeId} {s x : Operand} {z : Value} {bytes k n c : Nat} {agg : Bool} {v : IV} (hT : P.underlying T = some (.slice E)) (hE : Ty P E agg z 1 bytes) (ho : o.op = .call { callee := .builtin .copy, args := #[s, x], argTypes := #[T, T'] }) (hs1 : e s = .rsub k n c (n - c)) (hx : e x = .rsub k n 0 c)
    (hk : σ[k]? = some (.row E 1 (repR v n c))) (hc : c < n) (hv : flat v = [v]) (hv1 : v.one = true) : OpQ P r o e σ (.int .i64 (min c (n - c) : Nat)) (σ.set k (.row E 1 (repR v n (c + min c (n - c))))) := by
  have := op_copyR (r := r) hT hE ho hs1 hx hk (repR_len _ _ _ (by omega)).symm hc (by omega) (repR_flat _ _ _ hv) (repR_one _ _ _ hv1)
  rw [repR_step v n c _ (by omega) (by omega) (by omega)] at this
  exact this
end
section
variable {P : Program} {r : RN} {o : Oper} {e : Val2} {σ : List IObj}
theorem exec_bmin {T : Array TypeId} {A : Act} {w : World} {s x : Operand} {k k' : IntKind} {a b : Int} (ho : o.op = .call { callee := .builtin .min, args := #[s, x], argTypes := T }) (h1 : A.eval s = .int k a) (h2 : A.eval x = .int k' b) :
    (execOp A.eval o).run P w = .ok (.value (.int k (if b < a then b else a))) w := by
  simp only [execOp, ho, resolve, invoke, builtin, Sem.run_bind, Sem.run_pure, Result.andThen_ok, List.map_toArray, List.map_cons, List.map_nil, h1, h2, run_min_int2]
theorem exec_bmax {T : Array TypeId} {A : Act} {w : World} {s x : Operand} {k k' : IntKind} {a b : Int} (ho : o.op = .call { callee := .builtin .max, args := #[s, x], argTypes := T }) (h1 : A.eval s = .int k a) (h2 : A.eval x = .int k' b) :
    (execOp A.eval o).run P w = .ok (.value (.int k (if a < b then b else a))) w := by
  simp only [execOp, ho, resolve, invoke, builtin, Sem.run_bind, Sem.run_pure, Result.andThen_ok, List.map_toArray, List.map_cons, List.map_nil, h1, h2, run_max_int2]
theorem op_min {T : Array TypeId} {s x : Operand} {k k' : IntKind} {a b : Int} (ho : o.op = .call { callee := .builtin .min, args := #[s, x], argTypes := T }) (hs : e s = .int k a) (hx : e x = .int k' b) : OpQ P r o e σ (.int k (if b < a then b else a)) σ := by
  refine opq_pure (by rw [ho]; rfl) fun W0 D ρ w A hst ha => ?_
  have h1 := ha s (by simp [ho, Op.operands, Call.operands]); rw [hs] at h1
  have h2 := ha x (by simp [ho, Op.operands, Call.operands]); rw [hx] at h2
  exact ⟨_, exec_bmin ho h1.int_inv h2.int_inv, .int _ _⟩
theorem op_max {T : Array TypeId} {s x : Operand} {k k' : IntKind} {a b : Int} (ho : o.op = .call { callee := .builtin .max, args := #[s, x], argTypes := T }) (hs : e s = .int k a) (hx : e x = .int k' b) : OpQ P r o e σ (.int k (if a < b then b else a)) σ := by
  refine opq_pure (by rw [ho]; rfl) fun W0 D ρ w A hst ha => ?_
  have h1 := ha s (by simp [ho, Op.operands, Call.operands]); rw [hs] at h1
  have h2 := ha x (by simp [ho, Op.operands, Call.operands]); rw [hx] at h2
  exact ⟨_, exec_bmax ho h1.int_inv h2.int_inv, .int _ _⟩
end
section
variable {P : Program} {r : RN} {Q : IPost} {a a' : IA} {σ σ' : List IObj} {ops : Array Oper} {o : Oper} {rest l : List Oper}
/-- A call that answers a row of its own. -/
theorem x_crow {f : FuncId} {g : Operand} {args : Array Operand} {tys : Array TypeId} {fs cs asx asx' : List IV} {E sz : Nat} {xs : List IV} (hc : ICalls P f asx [] (fun u σ' => ∃ k, u = .row k xs.length ∧ σ'[k]? = some (.row E sz xs))) (hxs : ∀ x ∈ xs, Dat x) (k : IL P r ops Q rest a' σ') [hF : FunC P f] (hg : o.guard = none := by rfl) (ho : o.op = .call { callee := .value g, args := args, argTypes := tys } := by rfl)
    (he : ev a g = .fn (.func f) fs cs := by rfl) (has : fs ++ args.toList.map (ev a) ++ cs = asx' := by exact x_nf) (hw : Wks asx' asx := by exact x_wks) (hd : ∀ x ∈ asx, Dat x := by exact x_dats) (ha : a.put o.dst (.row σ.length xs.length) = a' := by exact x_nf) (hs : σ ++ [.row E sz xs] = σ' := by exact x_nf) : IL P r ops Q (o :: rest) a σ := by
  subst hs
  exact il_call hg ho he has ((hc.frameRow hd hxs σ).wks hw) fun v σ' ⟨h1, h2⟩ => by subst h1; subst h2; rw [ha]; exact k
end
end Go.QL
end

section
/- QL, part 1: what the library's functions on texts come to. No program in sight. -/
set_option linter.unusedVariables false
set_option linter.unusedSimpArgs false
namespace Go.QL
open Go Go.RowKit

/-- All characters of a text from a place on. -/
def strAll (p : Int → Bool) (s : ByteArray) : Nat → Nat → Bool
  | 0, _ => true
  | n + 1, i => if i < s.size then p ((Utf8.decode s i).1 : Int) && strAll p s n (i + (Utf8.decode s i).2) else true
theorem strAll_fuel (p : Int → Bool) (s : ByteArray) : ∀ (n m i : Nat), s.size ≤ i + n → s.size ≤ i + m → strAll p s n i = strAll p s m i
  | 0, 0, i, _, _ => rfl
  | 0, m + 1, i, h, _ => by rw [strAll, strAll, if_neg (by omega)]
  | n + 1, 0, i, _, h => by rw [strAll, strAll, if_neg (by omega)]
  | n + 1, m + 1, i, h1, h2 => by
    rw [strAll, strAll]
    by_cases hi : i < s.size
    · have := Lib.decode_width_pos s i hi
      rw [if_pos hi, if_pos hi, strAll_fuel p s n m _ (by omega) (by omega)]
    · rw [if_neg hi, if_neg hi]
theorem strAll_step (p : Int → Bool) (s : ByteArray) (i : Nat) (hi : i < s.size) : strAll p s (s.size - i) i = (p ((Utf8.decode s i).1 : Int) && strAll p s (s.size - (i + (Utf8.decode s i).2)) (i + (Utf8.decode s i).2)) := by
  have hw := Lib.decode_width_pos s i hi
  obtain ⟨n, hn⟩ : ∃ n, s.size - i = n + 1 := ⟨s.size - i - 1, by omega⟩
  rw [hn, strAll, if_pos hi, strAll_fuel p s n (s.size - (i + (Utf8.decode s i).2)) _ (by omega) (by omega)]
theorem strAll_end (p : Int → Bool) (s : ByteArray) (i : Nat) (hi : ¬ i < s.size) (n : Nat) : strAll p s n i = true := by
  cases n with
  | zero => rfl
  | succ n => rw [strAll, if_neg hi]
/-- P3.1: values. -/
def valueV (s : Str) : Bool := strAll charMay s s.size 0 && (decide ((s.size : Int) ≤ 200) && Lib.validD s.data.toList)
def lowR (c : Int) : Int := if 65 ≤ c ∧ c ≤ 90 then c + 32 else c
def scriptV (s : Str) : Bool := decide ((⟨(Lib.mapD lowR (Lib.cut s.data.toList [58]).1).toArray⟩ : ByteArray) = ⟨#[106, 97, 118, 97, 115, 99, 114, 105, 112, 116]⟩)
/-- P3.1: targets. -/
def targetV (s : Str) : Bool := valueV s && ((!decide (s = ⟨#[]⟩)) && ((!decide (sbyte s 0 = 32)) && ((!decide (sbyte s (s.size - 1) = 32)) && !scriptV s)))
end Go.QL
end

section
/- The contracts of attrs.Value, attrs.Target. -/
set_option linter.unusedVariables false
set_option linter.unusedSimpArgs false
set_option maxHeartbeats 4000000
namespace Go.Proofs.YtokbhcnomffopaaGreatDoor
open Go Go.QL

theorem value_calls (s : Str) (hV : ICalls Tryz.prog 149 [.str s] [] (fun u _ => u = .bool (Lib.validD s.data.toList))) : ICalls Tryz.prog 129 [.str s] [] (fun u _ => u = .bool (valueV s)) := by
  refine x_enter Tryz.func129 Tryz.ntmps129 ?_
  refine ic_seq ?_
  refine ic_region ?_
  refine x_op ?_
  refine il_nil ?_
  refine ic_seq ?_
  refine ic_seq ?_
  refine ic_region ?_
  refine x_op ?_
  refine x_op ?_
  refine il_nil ?_
  refine ic_block ?_ -- 0
  refine x_loop [] [2, 4, 7, 8, 9, 10, 11, 12] (fun m vs σ => ∃ i : Nat, strAll charMay s (s.size - i) i = strAll charMay s s.size 0 ∧ m = s.size - i ∧ vs = [] ∧ σ = [.obj (.stringIter s i)]) ⟨0, rfl, rfl, rfl, rfl⟩ ?_
  rintro m vs σ ⟨i, hi, rfl, rfl, rfl⟩
  simp only [sets, nf]
  refine ic_seq ?_
  refine ic_region ?_
  by_cases his : i < s.size
  · have hw := Lib.decode_width_pos s i his
    rw [strAll_step charMay s i his] at hi
    refine x_op ?_
    simp only [nextStr, nextPos, if_pos his]
    refine x_op ?_
    refine il_nil ?_
    refine ic_seq ?_
    refine ic_cond rfl (fun hc => ?_) (fun hc => ?_) -- t8
    · -- true
      refine ic_skip ?_
      refine ic_block ?_ -- 1
      refine ic_seq ?_
      refine ic_region ?_
      refine x_op ?_
      refine x_op ?_
      refine il_nil ?_
      refine ic_seq ?_
      refine ic_region ?_
      refine x_op ?_
      refine x_cv (charMay_calls ((Utf8.decode s i).1 : Int)) ?_
      refine x_op ?_
      refine il_nil ?_
      refine ic_cond rfl (fun hc => ?_) (fun hc => ?_) -- t12
      · -- true
        have hf : charMay ((Utf8.decode s i).1 : Int) = false := by simpa using hc
        rw [hf, Bool.false_and] at hi
        refine ic_seq ?_
        refine ic_region ?_
        refine x_op ?_
        refine il_nil ?_
        refine ic_ret ?_
        repeat (first | with_reducible refine it_ret ?_ | with_reducible refine ib_ret ?_)
        exact x_res1 Tryz.results129 (by rw [valueV, ← hi])
      · -- false
        have hf : charMay ((Utf8.decode s i).1 : Int) = true := by simpa using hc
        rw [hf, Bool.true_and] at hi
        refine ic_skip ?_
        exact x_next (s.size - (i + (Utf8.decode s i).2)) ⟨i + (Utf8.decode s i).2, hi, rfl, rfl, rfl⟩ (by omega) -- round
    · cases hc
  · rw [strAll_end charMay s i his] at hi
    refine x_op ?_
    simp only [nextStr, nextPos, if_neg his]
    refine x_op ?_
    refine il_nil ?_
    refine ic_seq ?_
    refine ic_cond rfl (fun hc => ?_) (fun hc => ?_) -- t8
    · cases hc
    · -- false
      refine ic_exit ?_ -- 0
      refine ic_seq ?_
      refine ic_region ?_
      refine x_op ?_
      refine x_op ?_
      refine x_op ?_
      refine x_op ?_
      rcases Bool.eq_false_or_eq_true (decide ((s.size : Int) ≤ 200)) with h | h
      · simp only [h]
        first | refine n_op ?_ | refine y_op ?_
        refine y_cv (hV) ?_
        refine x_op ?_
        refine x_op ?_
        refine il_nil ?_
        refine ic_ret ?_
        repeat (first | with_reducible refine it_ret ?_ | with_reducible refine ib_ret ?_)
        exact x_res1 Tryz.results129 (by rw [valueV, ← hi, h])
      · simp only [h]
        first | refine n_op ?_ | refine y_op ?_
        first | refine n_op ?_ | refine y_op ?_
        refine x_op ?_
        refine x_op ?_
        refine il_nil ?_
        refine ic_ret ?_
        repeat (first | with_reducible refine it_ret ?_ | with_reducible refine ib_ret ?_)
        exact x_res1 Tryz.results129 (by rw [valueV, ← hi, h])
theorem target1_calls (c : Int) (h0 : 0 ≤ c) (h1 : c ≤ 1114111) : ICalls Tryz.prog 128 [.int .i32 c] [] (fun u _ => u = .int .i32 (lowR c)) := by
  refine x_enter Tryz.func128 Tryz.ntmps128 ?_
  refine ic_seq ?_
  refine ic_region ?_
  refine x_op ?_
  refine il_nil ?_
  refine ic_seq ?_
  refine ic_seq ?_
  refine ic_region ?_
  refine x_op ?_
  refine x_op ?_
  refine x_op ?_
  rcases Bool.eq_false_or_eq_true (decide (65 ≤ c)) with h | h
  · simp only [h]
    first | refine n_op ?_ | refine y_op ?_
    first | refine n_op ?_ | refine y_op ?_
    refine x_op ?_
    refine il_nil ?_
    refine ic_cond rfl (fun hc => ?_) (fun hc => ?_) -- t8
    · -- true
      have hl : lowR c = IntKind.i32.wrap (c + 32) := by
        have h2 := of_decide_eq_true h
        have h3 := of_decide_eq_true hc
        unfold lowR
        rw [if_pos ⟨h2, h3⟩, IntKind.wrap_i32]
        omega
      refine ic_seq ?_
      refine ic_region ?_
      refine x_op ?_
      refine x_op ?_
      refine x_op ?_
      refine il_nil ?_
      refine ic_ret ?_
      repeat (first | with_reducible refine it_ret ?_ | with_reducible refine ib_ret ?_)
      exact x_res1 Tryz.results128 (by rw [hl])
    · -- false
      have hl : lowR c = c := by
        have h3 := of_decide_eq_false hc
        unfold lowR
        rw [if_neg (by omega)]
      refine ic_skip ?_
      refine ic_seq ?_
      refine ic_region ?_
      refine x_op ?_
      refine x_op ?_
      refine il_nil ?_
      refine ic_ret ?_
      repeat (first | with_reducible refine it_ret ?_ | with_reducible refine ib_ret ?_)
      exact x_res1 Tryz.results128 (by rw [hl])
  · simp only [h]
    first | refine n_op ?_ | refine y_op ?_
    first | refine n_op ?_ | refine y_op ?_
    refine x_op ?_
    refine il_nil ?_
    refine ic_cond rfl (fun hc => ?_) (fun hc => ?_) -- t8
    · cases hc
    · -- false
      have hl : lowR c = c := by
        have h3 := of_decide_eq_false h
        unfold lowR
        rw [if_neg (by omega)]
      refine ic_skip ?_
      refine ic_seq ?_
      refine ic_region ?_
      refine x_op ?_
      refine x_op ?_
      refine il_nil ?_
      refine ic_ret ?_
      repeat (first | with_reducible refine it_ret ?_ | with_reducible refine ib_ret ?_)
      exact x_res1 Tryz.results128 (by rw [hl])
theorem target_calls (s : Str) (hsz : s.size ≤ 70368744177664) (hV : ICalls Tryz.prog 149 [.str s] [] (fun u _ => u = .bool (Lib.validD s.data.toList)))
    (hC : ICalls Tryz.prog 126 [.str s, .str ⟨#[58]⟩] [] (fun u _ => u = .tup [.str ⟨(Lib.cut s.data.toList [58]).1.toArray⟩, .str ⟨(Lib.cut s.data.toList [58]).2.1.toArray⟩, .bool (Lib.cut s.data.toList [58]).2.2]))
    (hM : ∀ l : List UInt8, l.length ≤ s.size → ICalls Tryz.prog 127 [.fn (.func 128) [] [], .str ⟨l.toArray⟩] [] (fun u _ => u = .str ⟨(Lib.mapD lowR l).toArray⟩)) : ICalls Tryz.prog 114 [.str s] [] (fun u _ => u = .bool (targetV s)) := by
  have hcl : (Lib.cut s.data.toList [58]).1.length ≤ s.size := by
    unfold Lib.cut
    split
    · simp; omega
    · simp
  refine x_enter Tryz.func114 Tryz.ntmps114 ?_
  refine ic_seq ?_
  refine ic_region ?_
  refine x_op ?_
  refine il_nil ?_
  refine ic_seq ?_
  refine ic_region ?_
  refine x_op ?_
  refine x_cv (hC) ?_
  refine x_op ?_
  refine x_op ?_
  refine x_op ?_
  refine x_op ?_
  refine x_op ?_
  refine x_op ?_
  refine x_op ?_
  refine il_nil ?_
  refine ic_seq ?_
  refine ic_region ?_
  refine x_op ?_
  refine x_cv (hM _ hcl) ?_
  refine x_op ?_
  refine x_op ?_
  refine il_nil ?_
  refine ic_seq ?_
  refine ic_region ?_
  refine x_op ?_
  refine x_cv (value_calls s hV) ?_
  refine x_op ?_
  by_cases hs : s = ⟨#[]⟩
  · have hd : (!decide (s = (⟨#[]⟩ : ByteArray))) = false := by simp [hs]
    rcases Bool.eq_false_or_eq_true (valueV s) with h | h
    · simp only [h]
      first | refine n_op ?_ | refine y_op ?_
      first | refine n_op ?_ | refine y_op ?_
      refine x_op ?_
      refine x_op ?_
      simp only [hd]
      first | refine n_op ?_ | refine y_op ?_
      first | refine n_op ?_ | refine y_op ?_
      first | refine n_op ?_ | refine y_op ?_
      refine x_op ?_
      refine x_op ?_
      first | refine n_op ?_ | refine y_op ?_
      first | refine n_op ?_ | refine y_op ?_
      first | refine n_op ?_ | refine y_op ?_
      first | refine n_op ?_ | refine y_op ?_
      first | refine n_op ?_ | refine y_op ?_
      first | refine n_op ?_ | refine y_op ?_
      refine x_op ?_
      refine x_op ?_
      first | refine n_op ?_ | refine y_op ?_
      first | refine n_op ?_ | refine y_op ?_
      refine x_op ?_
      refine x_op ?_
      refine il_nil ?_
      have ht : targetV s = false := by simp [targetV, hd]
      rw [ht]
      refine ic_ret ?_
      repeat (first | with_reducible refine it_ret ?_ | with_reducible refine ib_ret ?_)
      exact x_res1 Tryz.results114 rfl
    · simp only [h]
      first | refine n_op ?_ | refine y_op ?_
      first | refine n_op ?_ | refine y_op ?_
      refine x_op ?_
      refine x_op ?_
      first | refine n_op ?_ | refine y_op ?_
      first | refine n_op ?_ | refine y_op ?_
      first | refine n_op ?_ | refine y_op ?_
      refine x_op ?_
      refine x_op ?_
      first | refine n_op ?_ | refine y_op ?_
      first | refine n_op ?_ | refine y_op ?_
      first | refine n_op ?_ | refine y_op ?_
      first | refine n_op ?_ | refine y_op ?_
      first | refine n_op ?_ | refine y_op ?_
      first | refine n_op ?_ | refine y_op ?_
      refine x_op ?_
      refine x_op ?_
      first | refine n_op ?_ | refine y_op ?_
      first | refine n_op ?_ | refine y_op ?_
      refine x_op ?_
      refine x_op ?_
      refine il_nil ?_
      have ht : targetV s = false := by simp [targetV, h]
      rw [ht]
      refine ic_ret ?_
      repeat (first | with_reducible refine it_ret ?_ | with_reducible refine ib_ret ?_)
      exact x_res1 Tryz.results114 rfl
  · have hd : (!decide (s = (⟨#[]⟩ : ByteArray))) = true := by simp [hs]
    have hpos : 0 < s.size := by
      rcases Nat.eq_zero_or_pos s.size with h | h
      · exact absurd (ByteArray.ext (Array.eq_empty_of_size_eq_zero h)) hs
      · exact h
    rcases Bool.eq_false_or_eq_true (valueV s) with h | h
    · simp only [h]
      first | refine n_op ?_ | refine y_op ?_
      first | refine n_op ?_ | refine y_op ?_
      refine x_op ?_
      refine x_op ?_
      simp only [hd]
      first | refine n_op ?_ | refine y_op ?_
      first | refine n_op ?_ | refine y_op ?_
      first | refine n_op ?_ | refine y_op ?_
      refine x_op ?_
      refine x_op ?_
      rcases Bool.eq_false_or_eq_true (!decide (sbyte s 0 = 32)) with h1 | h1
      · simp only [Int.toNat_zero, h1]
        first | refine n_op ?_ | refine y_op ?_
        first | refine n_op ?_ | refine y_op ?_
        first | refine n_op ?_ | refine y_op ?_
        first | refine n_op ?_ | refine y_op ?_
        first | refine n_op ?_ | refine y_op ?_
        first | refine n_op ?_ | refine y_op ?_
        refine x_op ?_
        refine x_op ?_
        rcases Bool.eq_false_or_eq_true (!decide (sbyte s (s.size - 1) = 32)) with h2 | h2
        · have e : ((s.size : Int) - 1).toNat = s.size - 1 := by omega
          simp only [e, h2]
          first | refine n_op ?_ | refine y_op ?_
          first | refine n_op ?_ | refine y_op ?_
          refine x_op ?_
          refine x_op ?_
          refine il_nil ?_
          have ht : targetV s = (!scriptV s) := by simp [targetV, hd, h, h1, h2]
          rw [ht]
          refine ic_ret ?_
          repeat (first | with_reducible refine it_ret ?_ | with_reducible refine ib_ret ?_)
          exact x_res1 Tryz.results114 rfl
        · have e : ((s.size : Int) - 1).toNat = s.size - 1 := by omega
          simp only [e, h2]
          first | refine n_op ?_ | refine y_op ?_
          first | refine n_op ?_ | refine y_op ?_
          refine x_op ?_
          refine x_op ?_
          refine il_nil ?_
          have ht : targetV s = false := by simp [targetV, h2]
          rw [ht]
          refine ic_ret ?_
          repeat (first | with_reducible refine it_ret ?_ | with_reducible refine ib_ret ?_)
          exact x_res1 Tryz.results114 rfl
      · simp only [Int.toNat_zero, h1]
        first | refine n_op ?_ | refine y_op ?_
        first | refine n_op ?_ | refine y_op ?_
        first | refine n_op ?_ | refine y_op ?_
        first | refine n_op ?_ | refine y_op ?_
        first | refine n_op ?_ | refine y_op ?_
        first | refine n_op ?_ | refine y_op ?_
        refine x_op ?_
        refine x_op ?_
        first | refine n_op ?_ | refine y_op ?_
        first | refine n_op ?_ | refine y_op ?_
        refine x_op ?_
        refine x_op ?_
        refine il_nil ?_
        have ht : targetV s = false := by simp [targetV, h1]
        rw [ht]
        refine ic_ret ?_
        repeat (first | with_reducible refine it_ret ?_ | with_reducible refine ib_ret ?_)
        exact x_res1 Tryz.results114 rfl
    · simp only [h]
      first | refine n_op ?_ | refine y_op ?_
      first | refine n_op ?_ | refine y_op ?_
      refine x_op ?_
      refine x_op ?_
      first | refine n_op ?_ | refine y_op ?_
      first | refine n_op ?_ | refine y_op ?_
      first | refine n_op ?_ | refine y_op ?_
      refine x_op ?_
      refine x_op ?_
      first | refine n_op ?_ | refine y_op ?_
      first | refine n_op ?_ | refine y_op ?_
      first | refine n_op ?_ | refine y_op ?_
      first | refine n_op ?_ | refine y_op ?_
      first | refine n_op ?_ | refine y_op ?_
      first | refine n_op ?_ | refine y_op ?_
      refine x_op ?_
      refine x_op ?_
      first | refine n_op ?_ | refine y_op ?_
      first | refine n_op ?_ | refine y_op ?_
      refine x_op ?_
      refine x_op ?_
      refine il_nil ?_
      have ht : targetV s = false := by simp [targetV, h]
      rw [ht]
      refine ic_ret ?_
      repeat (first | with_reducible refine it_ret ?_ | with_reducible refine ib_ret ?_)
      exact x_res1 Tryz.results114 rfl
end Go.Proofs.YtokbhcnomffopaaGreatDoor
end

section
/-
  DERIVED: THE SHELF's CONTRACTS AT THIS DUMP, IN PLAIN WORDS (tools/lay-plain.mjs out of 'YtokbhcnomffopaaGreatDoorShT.lean', which tools/lay-shelf.mjs wrote): THE SAME DECLARATIONS UNDER THE SAME NAMES: 'import', 'namespace', 'open', 'def', 'theorem' AND NOTHING ELSE: no command of the shelf's: FOR A HAND-IN. Each laying: the table of numbers ('.._ren') and one theorem, a field a fact of the dump's own or the kernel's comparison; each contract: ONE APPLICATION.
-/
namespace Go.Proofs
open Go.Shelf
def Tryz.lays145_ren : Go.Shelf.Ren := ⟨fun | 145 => 126 | 220 => 140 | 219 => 154 | 217 => 168 | 225 => 169 | 224 => 170 | 267 => 171 | 266 => 181 | 314 => 182 | n => n, fun | 9 => 9 | 4 => 4 | 59 => 168 | 3 => 3 | 5 => 5 | 46 => 92 | 146 => 122 | 51 => 121 | n => n, fun | 1 => 2 | n => n⟩
theorem Tryz.lays145 : Go.Proofs.Lays.n145 Tryz.prog Tryz.lays145_ren := {
  mixed := by kernel_rfl
  f145 := Tryz.func126.trans (congrArg some (by kernel_rfl))
  f217 := Tryz.func168.trans (congrArg some (by kernel_rfl))
  f219 := Tryz.func154.trans (congrArg some (by kernel_rfl))
  f220 := Tryz.func140.trans (congrArg some (by kernel_rfl))
  f224 := Tryz.func170.trans (congrArg some (by kernel_rfl))
  f225 := Tryz.func169.trans (congrArg some (by kernel_rfl))
  f266 := Tryz.func181.trans (congrArg some (by kernel_rfl))
  f267 := Tryz.func171.trans (congrArg some (by kernel_rfl))
  f314 := Tryz.func182.trans (congrArg some (by kernel_rfl))
  t3 := Tryz.underlying3
  a3 := Tryz.isAgg3
  z3 := Tryz.sizeOf3
  v3 := Tryz.zeroValue3
  t4 := Tryz.underlying4
  a4 := Tryz.isAgg4
  z4 := Tryz.sizeOf4
  v4 := Tryz.zeroValue4
  t5 := Tryz.underlying5
  a5 := Tryz.isAgg5
  z5 := Tryz.sizeOf5
  v5 := Tryz.zeroValue5
  t9 := Tryz.underlying9
  a9 := Tryz.isAgg9
  z9 := Tryz.sizeOf9
  v9 := Tryz.zeroValue9
  t46 := Tryz.underlying92
  a46 := Tryz.isAgg92
  z46 := Tryz.sizeOf92
  v46 := Tryz.zeroValue92
  t51 := Tryz.underlying121
  a51 := Tryz.isAgg121
  z51 := Tryz.sizeOf121
  v51 := Tryz.zeroValue121
  t59 := Tryz.underlying168
  a59 := Tryz.isAgg168
  z59 := Tryz.sizeOf168
  v59 := Tryz.zeroValue168
  t146 := Tryz.underlying122
  a146 := Tryz.isAgg122
  z146 := Tryz.sizeOf122
  v146 := Tryz.zeroValue122
  g1 := by kernel_rfl }
def Tryz.lays195_ren : Go.Shelf.Ren := ⟨fun | 195 => 82 | n => n, fun | 9 => 9 | 3 => 3 | 0 => 0 | 4 => 4 | n => n, fun | n => n⟩
theorem Tryz.lays195 : Go.Proofs.Lays.n195 Tryz.prog Tryz.lays195_ren := {
  mixed := by kernel_rfl
  f195 := Tryz.func82.trans (congrArg some (by kernel_rfl))
  t0 := Tryz.underlying0
  a0 := Tryz.isAgg0
  z0 := Tryz.sizeOf0
  v0 := Tryz.zeroValue0
  t3 := Tryz.underlying3
  a3 := Tryz.isAgg3
  z3 := Tryz.sizeOf3
  v3 := Tryz.zeroValue3
  t4 := Tryz.underlying4
  a4 := Tryz.isAgg4
  z4 := Tryz.sizeOf4
  v4 := Tryz.zeroValue4
  t9 := Tryz.underlying9
  a9 := Tryz.isAgg9
  z9 := Tryz.sizeOf9
  v9 := Tryz.zeroValue9 }
def Tryz.lays196_ren : Go.Shelf.Ren := ⟨fun | 196 => 149 | 259 => 159 | n => n, fun | 9 => 9 | 4 => 4 | 3 => 3 | 5 => 5 | 12 => 12 | 119 => 203 | 0 => 0 | 46 => 92 | 139 => 206 | 138 => 205 | 53 => 124 | n => n, fun | 3 => 0 | 4 => 1 | n => n⟩
theorem Tryz.lays196 : Go.Proofs.Lays.n196 Tryz.prog Tryz.lays196_ren := {
  mixed := by kernel_rfl
  f196 := Tryz.func149.trans (congrArg some (by kernel_rfl))
  f259 := Tryz.func159.trans (congrArg some (by kernel_rfl))
  t0 := Tryz.underlying0
  a0 := Tryz.isAgg0
  z0 := Tryz.sizeOf0
  v0 := Tryz.zeroValue0
  t3 := Tryz.underlying3
  a3 := Tryz.isAgg3
  z3 := Tryz.sizeOf3
  v3 := Tryz.zeroValue3
  t4 := Tryz.underlying4
  a4 := Tryz.isAgg4
  z4 := Tryz.sizeOf4
  v4 := Tryz.zeroValue4
  t5 := Tryz.underlying5
  a5 := Tryz.isAgg5
  z5 := Tryz.sizeOf5
  v5 := Tryz.zeroValue5
  t9 := Tryz.underlying9
  a9 := Tryz.isAgg9
  z9 := Tryz.sizeOf9
  v9 := Tryz.zeroValue9
  t12 := Tryz.underlying12
  a12 := Tryz.isAgg12
  z12 := Tryz.sizeOf12
  v12 := Tryz.zeroValue12
  t46 := Tryz.underlying92
  a46 := Tryz.isAgg92
  z46 := Tryz.sizeOf92
  v46 := Tryz.zeroValue92
  t53 := Tryz.underlying124
  a53 := Tryz.isAgg124
  z53 := Tryz.sizeOf124
  v53 := Tryz.zeroValue124
  t119 := Tryz.underlying203
  a119 := Tryz.isAgg203
  z119 := Tryz.sizeOf203
  t138 := Tryz.underlying205
  a138 := Tryz.isAgg205
  z138 := Tryz.sizeOf205
  v138 := Tryz.zeroValue205
  t139 := Tryz.underlying206
  a139 := Tryz.isAgg206
  z139 := Tryz.sizeOf206
  v139 := Tryz.zeroValue206
  g3 := by kernel_rfl
  g4 := by kernel_rfl }
def Tryz.lays230_ren : Go.Shelf.Ren := ⟨fun | 230 => 127 | 197 => 141 | 118 => 142 | 165 => 143 | 166 => 144 | 168 => 145 | 270 => 146 | 167 => 147 | 169 => 148 | 260 => 155 | 240 => 156 | 241 => 157 | 242 => 158 | 276 => 172 | 277 => 173 | 278 => 174 | n => n, fun | 107 => 171 | 9 => 9 | 72 => 184 | 0 => 0 | 4 => 4 | 3 => 3 | 21 => 21 | 105 => 185 | 76 => 189 | 5 => 5 | 75 => 188 | 70 => 181 | 20 => 20 | 37 => 182 | 127 => 201 | 119 => 203 | 46 => 92 | 139 => 206 | 138 => 205 | 164 => 216 | 51 => 121 | 80 => 194 | n => n, fun | 3 => 0 | 4 => 1 | n => n⟩
theorem Tryz.lays230 : Go.Proofs.Lays.n230 Tryz.prog Tryz.lays230_ren := {
  mixed := by kernel_rfl
  f118 := Tryz.func142.trans (congrArg some (by kernel_rfl))
  f165 := Tryz.func143.trans (congrArg some (by kernel_rfl))
  f166 := Tryz.func144.trans (congrArg some (by kernel_rfl))
  f167 := Tryz.func147.trans (congrArg some (by kernel_rfl))
  f168 := Tryz.func145.trans (congrArg some (by kernel_rfl))
  f169 := Tryz.func148.trans (congrArg some (by kernel_rfl))
  f197 := Tryz.func141.trans (congrArg some (by kernel_rfl))
  f230 := Tryz.func127.trans (congrArg some (by kernel_rfl))
  f240 := Tryz.func156.trans (congrArg some (by kernel_rfl))
  f241 := Tryz.func157.trans (congrArg some (by kernel_rfl))
  f242 := Tryz.func158.trans (congrArg some (by kernel_rfl))
  f260 := Tryz.func155.trans (congrArg some (by kernel_rfl))
  f270 := Tryz.func146.trans (congrArg some (by kernel_rfl))
  f276 := Tryz.func172.trans (congrArg some (by kernel_rfl))
  f277 := Tryz.func173.trans (congrArg some (by kernel_rfl))
  f278 := Tryz.func174.trans (congrArg some (by kernel_rfl))
  t0 := Tryz.underlying0
  a0 := Tryz.isAgg0
  z0 := Tryz.sizeOf0
  v0 := Tryz.zeroValue0
  t3 := Tryz.underlying3
  a3 := Tryz.isAgg3
  z3 := Tryz.sizeOf3
  v3 := Tryz.zeroValue3
  t4 := Tryz.underlying4
  a4 := Tryz.isAgg4
  z4 := Tryz.sizeOf4
  v4 := Tryz.zeroValue4
  t5 := Tryz.underlying5
  a5 := Tryz.isAgg5
  z5 := Tryz.sizeOf5
  v5 := Tryz.zeroValue5
  t9 := Tryz.underlying9
  a9 := Tryz.isAgg9
  z9 := Tryz.sizeOf9
  v9 := Tryz.zeroValue9
  t20 := Tryz.underlying20
  a20 := Tryz.isAgg20
  z20 := Tryz.sizeOf20
  v20 := Tryz.zeroValue20
  t21 := Tryz.underlying21
  a21 := Tryz.isAgg21
  z21 := Tryz.sizeOf21
  v21 := Tryz.zeroValue21
  t37 := Tryz.underlying182
  a37 := Tryz.isAgg182
  z37 := Tryz.sizeOf182
  v37 := Tryz.zeroValue182
  t46 := Tryz.underlying92
  a46 := Tryz.isAgg92
  z46 := Tryz.sizeOf92
  v46 := Tryz.zeroValue92
  t51 := Tryz.underlying121
  a51 := Tryz.isAgg121
  z51 := Tryz.sizeOf121
  v51 := Tryz.zeroValue121
  t70 := Tryz.underlying181
  a70 := Tryz.isAgg181
  z70 := Tryz.sizeOf181
  v70 := Tryz.zeroValue181
  t72 := Tryz.underlying184
  a72 := Tryz.isAgg184
  z72 := Tryz.sizeOf184
  v72 := Tryz.zeroValue184
  t75 := Tryz.underlying188
  a75 := Tryz.isAgg188
  z75 := Tryz.sizeOf188
  v75 := Tryz.zeroValue188
  t76 := Tryz.underlying189
  a76 := Tryz.isAgg189
  z76 := Tryz.sizeOf189
  v76 := Tryz.zeroValue189
  t105 := Tryz.underlying185
  a105 := Tryz.isAgg185
  z105 := Tryz.sizeOf185
  v105 := Tryz.zeroValue185
  t107 := Tryz.underlying171
  a107 := Tryz.isAgg171
  z107 := Tryz.sizeOf171
  v107 := Tryz.zeroValue171
  t119 := Tryz.underlying203
  a119 := Tryz.isAgg203
  z119 := Tryz.sizeOf203
  t127 := Tryz.underlying201
  a127 := Tryz.isAgg201
  z127 := Tryz.sizeOf201
  v127 := Tryz.zeroValue201
  t138 := Tryz.underlying205
  a138 := Tryz.isAgg205
  z138 := Tryz.sizeOf205
  v138 := Tryz.zeroValue205
  t139 := Tryz.underlying206
  a139 := Tryz.isAgg206
  z139 := Tryz.sizeOf206
  v139 := Tryz.zeroValue206
  t164 := Tryz.underlying216
  a164 := Tryz.isAgg216
  z164 := Tryz.sizeOf216
  v164 := Tryz.zeroValue216
  g3 := by kernel_rfl
  g4 := by kernel_rfl }
theorem Tryz.Builder_Extra : Builder.Extra Tryz.prog Tryz.lays230_ren := {
  sizeBuilder := by kernel_rfl
  liesBuilder := by kernel_rfl
  t5 := Tryz.lays230.t5
  a5 := Tryz.lays230.a5
  z5 := Tryz.lays230.z5
  v5 := Tryz.lays230.v5
  infoByte := by kernel_rfl
  cellsByte := by kernel_rfl
  sizeByte := by kernel_rfl
  neB5 := by decide }
end Go.Proofs
end

section
/- The library's contracts, and what leans on them: attrs.Target, chars.Count. -/
set_option linter.unusedVariables false
set_option linter.unusedSimpArgs false
set_option maxHeartbeats 4000000
namespace Go.Proofs.YtokbhcnomffopaaGreatDoor
open Go Go.QL Go.RowKit

theorem rel_str {D : DM} {ρ : List Slot} {s : ByteArray} {vs : List Value} (h : Rel2 D ρ [.str s] vs) : vs = [.string s] := by
  obtain ⟨v, vs', rfl, h1, h2⟩ := h.head
  have h3 : vs' = [] := List.eq_nil_of_length_eq_zero h2.1.symm
  rw [h1.str_inv, h3]
theorem rel_str2 {D : DM} {ρ : List Slot} {s t : ByteArray} {vs : List Value} (h : Rel2 D ρ [.str s, .str t] vs) : vs = [.string s, .string t] := by
  obtain ⟨v, vs', rfl, h1, h2⟩ := h.head
  rw [h1.str_inv, rel_str h2]
theorem rel_fnstr {D : DM} {ρ : List Slot} {g : Fn} {t : ByteArray} {vs : List Value} (h : Rel2 D ρ [.fn g [] [], .str t] vs) : vs = [.func g #[] #[], .string t] := by
  obtain ⟨v, vs', rfl, h1, h2⟩ := h.head
  cases h1 with
  | fn _ _ _ vs us hl hl2 hv hv2 =>
    have e1 : vs = #[] := Array.eq_empty_of_size_eq_zero (by simpa using hl.symm)
    have e2 : us = #[] := Array.eq_empty_of_size_eq_zero (by simpa using hl2.symm)
    rw [e1, e2, rel_str h2]
theorem below_iter (w : World) (s : ByteArray) (pos : Nat) : Below w.heap.size w (w.iter s pos) := (Below.refl _ w).alloc (Nat.le_refl _) _
theorem valid_calls (s : ByteArray) (hs : s.size ≤ 9223372036854775807) : ICalls Tryz.prog 149 [.str s] [] (fun u _ => u = .bool (Lib.validD s.data.toList)) :=
  icalls_shelf (vs0 := #[.string s]) (fun D ρ vs h => rel_str h) (fun D ρ => .bool _) fun w hl => Any.utf8_ValidString Tryz.lays196 s w hs hl.1
theorem runeCount_calls (s : ByteArray) (hs : s.size < 9223372036854775807) : ICalls Tryz.prog 82 [.str s] [] (fun u _ => u = .int .i64 (Lib.runeCount s)) :=
  icalls_shelf (vs0 := #[.string s]) (fun D ρ vs h => rel_str h) (fun D ρ => .int _ _) fun w hl => (Any.utf8_RuneCountInString Tryz.lays195 s w hs).mono fun e w' ⟨h1, pos, h2⟩ => ⟨h1, h2 ▸ below_iter w s pos⟩
theorem cut_calls (s : ByteArray) (hs : s.size < 4294967281) : ICalls Tryz.prog 126 [.str s, .str ⟨#[58]⟩] [] (fun u _ => u = .tup [.str ⟨(Lib.cut s.data.toList [58]).1.toArray⟩, .str ⟨(Lib.cut s.data.toList [58]).2.1.toArray⟩, .bool (Lib.cut s.data.toList [58]).2.2]) :=
  icalls_shelf (vs0 := #[.string s, .string ⟨#[58]⟩]) (v := .tuple #[.string ⟨(Lib.cut s.data.toList [58]).1.toArray⟩, .string ⟨(Lib.cut s.data.toList [58]).2.1.toArray⟩, .bool (Lib.cut s.data.toList [58]).2.2]) (fun D ρ vs h => rel_str2 h) (fun D ρ => .tup _ _ rfl fun i u v e e' => by
    rcases i with _ | _ | _ | i <;> simp at e e'
    · subst e; subst e'; exact .str _
    · subst e; subst e'; exact .str _
    · subst e; subst e'; exact .bool _) fun w hl => by
    obtain ⟨m, hm⟩ := hl.2.1
    exact (Any.strings_Cut Tryz.lays145 s ⟨#[58]⟩ m w hs hm).mono fun e w' ⟨h1, n, h2⟩ => ⟨h1, h2 ▸ below_drewNm w n⟩
theorem low_range (x : Nat) (hx : x ≤ 1114111) : -2147483648 ≤ lowR x ∧ lowR x ≤ 2147483647 := by unfold lowR; split <;> omega
theorem map_calls (l : List UInt8) (hl : l.length < 35184372088832) : ICalls Tryz.prog 127 [.fn (.func 128) [] [], .str ⟨l.toArray⟩] [] (fun u _ => u = .str ⟨(Lib.mapD lowR l).toArray⟩) :=
  icalls_shelf (vs0 := #[.func (.func 128) #[] #[], .string ⟨l.toArray⟩]) (fun D ρ vs h => rel_fnstr h) (fun D ρ => .str _) fun w hL => by
    have hg : MapGrows Tryz.prog 128 #[] lowR w := fun W x hx hb => by
      have hLW := hL.below hb
      let B : Base := ⟨W, fun _ _ => none, hLW, fun b => W.heap.size ≤ b, fun _ h => h, fun b hb hf => by
        have : ∀ {o v}, W.cell? ⟨b, o, none⟩ = some v → False := fun {o v} h => absurd (World.block_lt_of_cell? W _ h) (Nat.not_lt.2 hf)
        obtain ⟨h1, ⟨m, h2⟩, _⟩ := hLW
        rcases hb with rfl | rfl | rfl | hb
        · exact this (h1.1 0 (by decide))
        · exact this (h1.2 0 (by decide)).1
        · exact this h2
        · exact hb⟩
      have hst : St B (fun _ _ => none) [] [] W := ⟨Keeps.refl _ _, fun _ _ _ e => (by cases e), fun _ _ _ e => (by cases e), rfl, fun k s o e => (by simp at e), fun k s b e => (by simp at e), fun j k s t b e => (by simp at e)⟩
      refine ((target1_calls (x : Int) (by omega) (by omega)) B _ [] W #[.int .i32 (x : Int)] hst ⟨rfl, fun i u v e e' => ?_⟩).mono ?_
      · rcases i with _ | i <;> simp at e e'
        subst e; subst e'; exact .int _ _
      · rintro e w' ⟨D', ρ', u, v, σ', rfl, _, hs, hv, rfl⟩
        exact ⟨by rw [hv.int_inv], hs.below.all⟩
    have := Any.strings_Map_grows Tryz.lays230 Tryz.Builder_Extra 128 #[] (enters_of Tryz.func128 (by kernel_rfl) rfl) lowR ⟨l.toArray⟩ w (by show l.toArray.size < _; simpa using hl) hg low_range hL.1
    exact this
theorem target_all (s : Str) (hs : s.size ≤ 1073741824) : ICalls Tryz.prog 114 [.str s] [] (fun u _ => u = .bool (targetV s)) :=
  target_calls s (by omega) (valid_calls s (by omega)) (cut_calls s (by omega)) fun l hl => map_calls l (by omega)
theorem count_calls (s : Str) (hs : s.size ≤ 1073741824) : ICalls Tryz.prog 63 [.str s] [] (fun u _ => u = .int .i64 (Lib.runeCount s)) := by
  refine x_enter Tryz.func63 Tryz.ntmps63 ?_
  refine ic_seq ?_
  refine ic_region ?_
  refine x_op ?_
  refine il_nil ?_
  refine ic_seq ?_
  refine ic_region ?_
  refine x_op ?_
  refine x_cv (runeCount_calls s (by omega)) ?_
  refine x_op ?_
  refine il_nil ?_
  refine ic_ret ?_
  repeat (first | with_reducible refine it_ret ?_ | with_reducible refine ib_ret ?_)
  exact x_res1 Tryz.results63 rfl
end Go.Proofs.YtokbhcnomffopaaGreatDoor
end

section
/- QL, part 2: parts of arrays. Plain; no program in sight. -/
set_option linter.unusedVariables false
set_option linter.unusedSimpArgs false
namespace Go.QL
open Go Go.RowKit
section
variable {P : Program} {r : RN} {o : Oper} {e : Val2} {σ : List IObj}
theorem op_indexA {T E : TypeId} {x i : Operand} {cs : List IV} {k : IntKind} {n : Int} {len sz bytes : Nat} {z : Value} (hT : P.underlying T = some (.array len E)) (hE : Ty P E true z sz bytes) (ho : o.op = .index T x i) (hx : e x = .agg cs) (hi : e i = .int k n) (h0 : 0 ≤ n) (hn : n < len) :
    OpQ P r o e σ (.agg ((cs.drop (n.toNat * sz)).take sz)) σ := by
  refine opq_pure (by rw [ho]; rfl) fun W0 D ρ w A hs ha => ?_
  have h1 := ha x (by simp [ho, Op.operands])
  rw [hx] at h1
  have h2 := ha i (by simp [ho, Op.operands])
  rw [hi] at h2
  have h2 := h2.int_inv
  generalize hval : A.eval x = val at h1
  cases h1 with
  | agg _ vs hl hv =>
    have hr : Rel2 D ρ cs vs.toList := ⟨by simpa using hl, fun i u v e e' => hv i u v e (by simpa using e')⟩
    refine ⟨.agg (vs.extract (n.toNat * sz) (n.toNat * sz + sz)), ?_, ?_⟩
    · simp [execOp, ho, hval, h2, Instr.index, asIntOf, Sem.run_bind, run_underlying hT, Result.andThen, part, hE.isAgg, hE.sizeOf, h0, hn]
    · have := (hr.sub (n.toNat * sz) sz).agg
      have e2 : ((vs.toList.drop (n.toNat * sz)).take sz).toArray = vs.extract (n.toNat * sz) (n.toNat * sz + sz) := by
        apply Array.toList_inj.1
        simp [List.extract_eq_take_drop]
      rwa [e2] at this
theorem op_buildA {T E : TypeId} {n : Nat} {parts : Array (Nat × Operand)} {z zT : Value} {sz bytes szT bytesT : Nat} {agg : Bool} {us : List IV} (hT : P.underlying T = some (.array n E)) (hTT : Ty P T true zT szT bytesT) (hE : Ty P E agg z sz bytes) (hz : zT.cells.size = n * sz) (ho : o.op = .build T parts)
    (hp : parts.toList.map (fun p => (p.1, e p.2)) = (us.zipIdx 0).map fun p => (p.2, p.1)) (hus : us.length = n) (hg : Good sz us) : OpQ P r o e σ (.agg (flats us)) σ := by
  refine opq_pure (by rw [ho]; rfl) fun W0 D ρ w A hs ha => ?_
  have hzc : Rel2 D ρ (List.replicate (n * sz) IV.junk) zT.cells.toList := ⟨by simp [hz], fun i u v e1 e2 => by
    have := List.eq_of_mem_replicate (List.mem_of_getElem? e1)
    subst this
    exact .junk _⟩
  have hb := bfill_all (sz := sz) us [] (List.replicate (n * sz) IV.junk) hg (fun _ h => by cases h) (by simp [hus])
  simp only [flats, List.flatMap_nil, List.nil_append, List.length_nil] at hb
  rw [← hp] at hb
  obtain ⟨res, hres, hrel⟩ := fill_of (D := D) (ρ := ρ) (fun i => some (i * sz, sz)) (parts.toList.map fun p => (p.1, e p.2)) (parts.toList.map fun p => (p.1, A.eval p.2)) _ _ _ (by simp) (fun i u v e1 e2 => by
    simp only [List.getElem?_map, Option.map_eq_some_iff] at e1 e2
    obtain ⟨p, hp1, rfl⟩ := e1
    obtain ⟨q, hq, rfl⟩ := e2
    rw [hp1] at hq
    cases hq
    refine ⟨rfl, ha _ ?_⟩
    simp only [ho, Op.operands, List.mem_toArray, List.mem_map]
    exact ⟨p, by simpa using List.mem_of_getElem? hp1, rfl⟩) hzc hb
  refine ⟨.agg res, ?_, hrel.agg⟩
  have e1 : (parts.map fun (x : Nat × Operand) => (x.1, A.eval x.2)).toList = parts.toList.map fun p => (p.1, A.eval p.2) := by simp
  simp only [execOp, ho, Instr.build, Sem.run_bind, hTT.zero, run_underlying hT, Result.andThen_ok, hE.sizeOf, e1, hres, Sem.run_pure]
/-- Is it nil? It is. -/
theorem op_eqlnil0 {T E yt : TypeId} {x y : Operand} (hT : P.underlying T = some (.slice E)) (ho : o.op = .binOp .eql T x y yt) (hx : e x = .nils) (hy : e y = .nils) : OpQ P r o e σ (.bool true) σ := by
  refine opq_pure (by rw [ho]; rfl) fun W0 D ρ w A hs ha => ⟨.bool true, ?_, .bool _⟩
  have e1 := ha x (by simp [ho, Op.operands]); rw [hx] at e1; have e1 := e1.nils_inv
  have e2 := ha y (by simp [ho, Op.operands]); rw [hy] at e2; have e2 := e2.nils_inv
  have hg : (eqGuard .eql T x y (.slice none 0 0) (.slice none 0 0)).run P w = .ok () w := by unfold eqGuard; split <;> rfl
  simp only [execOp, ho, e1, e2, Sem.run_bind, hg, Result.andThen_ok, binOp]
  simp only [Sem.run_bind, run_equal_nil hT, Result.andThen_ok, Sem.run_pure]
  rfl
end
/-! ### tags -/
def clsV (t : Int) : Int := if t < 0 ∨ 16 < t then 0 else [1, 2, 3, 3, 3, 3, 2, 2, 2, 3, 4, 4, 4, 4, 4, 4, 5].getD t.toNat 0
end Go.QL
end

section
/- The contracts of tags.table, of, Class; slices.Clone[int]. -/
set_option linter.unusedVariables false
set_option linter.unusedSimpArgs false
set_option maxHeartbeats 4000000
namespace Go.Proofs.YtokbhcnomffopaaGreatDoor
open Go Go.QL

theorem cloneInil_calls : ICalls Tryz.prog 37 [.nils] [] (fun u _ => u = .nils) := by
  refine x_enter Tryz.func37 Tryz.ntmps37 ?_
  refine ic_seq ?_
  refine ic_region ?_
  refine x_op ?_
  refine il_nil ?_
  refine ic_seq ?_
  refine ic_seq ?_
  refine ic_region ?_
  refine x_op ?_
  refine x_op (h := by exact op_eqlnil0 SlC.h rfl rfl rfl) ?_
  refine il_nil ?_
  refine ic_cond rfl (fun hc => ?_) (fun hc => ?_) -- t4
  · -- true
    refine ic_seq ?_
    refine ic_region ?_
    refine x_op ?_
    refine il_nil ?_
    refine ic_ret ?_
    repeat (first | with_reducible refine it_ret ?_ | with_reducible refine ib_ret ?_)
    exact x_res1 Tryz.results37 rfl
  · cases hc
theorem cloneI_calls (l : List Int) (f : Bool) (h0 : l ≠ []) (hl : l.length ≤ 4294967296) : ICalls Tryz.prog 37 [.sl f (l.map eI)] [] (fun u σ' => ∃ k, u = .row k (l.map eI).length ∧ σ'[k]? = some (.row TB_int 1 (l.map eI))) := by
  refine x_enter Tryz.func37 Tryz.ntmps37 ?_
  refine ic_seq ?_
  refine ic_region ?_
  refine x_op ?_
  refine il_nil ?_
  refine ic_seq ?_
  refine ic_seq ?_
  refine ic_region ?_
  refine x_op ?_
  refine il_kn rfl (op_eqlnil SlC.h rfl rfl rfl) ?_
  rintro v σ' ⟨rfl, b, rfl, hb⟩
  refine ⟨_, x_nf, ?_⟩
  refine il_nil ?_
  refine ic_cond rfl (fun hc => ?_) (fun hc => ?_) -- t4
  · -- true
    exact absurd (List.map_eq_nil_iff.1 (hb hc)) h0
  · -- false
    refine ic_skip ?_
    refine ic_seq ?_
    refine ic_region ?_
    refine x_op ?_
    refine x_op ?_
    refine x_op ?_
    refine x_op ?_
    refine il_nil ?_
    refine ic_ret ?_
    repeat (first | with_reducible refine it_ret ?_ | with_reducible refine ib_ret ?_)
    exact ⟨rfl, _, ires_tmp Tryz.results37 x_le, 0, by simp, rfl⟩
abbrev rowsI : List IV := [.agg [.nils, .int .i64 1], .agg [.sl true [.str ⟨#[100, 105, 118]⟩], .int .i64 2], .agg [.sl true [.str ⟨#[112]⟩], .int .i64 3], .agg [.sl true [.str ⟨#[104, 49]⟩], .int .i64 3], .agg [.sl true [.str ⟨#[104, 50]⟩], .int .i64 3], .agg [.sl true [.str ⟨#[104, 51]⟩], .int .i64 3], .agg [.sl true [.str ⟨#[98, 108, 111, 99, 107, 113, 117, 111, 116, 101]⟩], .int .i64 2], .agg [.sl true [.str ⟨#[117, 108]⟩], .int .i64 2], .agg [.sl true [.str ⟨#[111, 108]⟩], .int .i64 2], .agg [.sl true [.str ⟨#[108, 105]⟩], .int .i64 3], .agg [.sl true [.str ⟨#[97]⟩], .int .i64 4], .agg [.sl true [.str ⟨#[98]⟩, .str ⟨#[115, 116, 114, 111, 110, 103]⟩], .int .i64 4], .agg [.sl true [.str ⟨#[105]⟩, .str ⟨#[101, 109]⟩], .int .i64 4], .agg [.sl true [.str ⟨#[117]⟩, .str ⟨#[105, 110, 115]⟩], .int .i64 4], .agg [.sl true [.str ⟨#[115]⟩, .str ⟨#[115, 116, 114, 105, 107, 101]⟩, .str ⟨#[100, 101, 108]⟩], .int .i64 4], .agg [.sl true [.str ⟨#[115, 112, 97, 110]⟩], .int .i64 4], .agg [.sl true [.str ⟨#[98, 114]⟩], .int .i64 5]]
theorem table_calls : ICalls Tryz.prog 85 [] [] (fun u _ => u = .agg (flats rowsI)) := by
  refine x_enter Tryz.func85 Tryz.ntmps85 ?_
  refine ic_seq ?_
  refine ic_region ?_
  refine x_op ?_
  refine il_nil ?_
  refine ic_seq ?_
  refine ic_region ?_
  refine x_op ?_
  refine x_op ?_
  refine x_op ?_
  refine x_op ?_
  refine x_op ?_
  refine x_op ?_
  refine x_op ?_
  refine x_op ?_
  refine x_op ?_
  refine x_op ?_
  refine x_op ?_
  refine x_op ?_
  refine x_op ?_
  refine x_op ?_
  refine x_op ?_
  refine x_op ?_
  refine x_op ?_
  refine x_op ?_
  refine x_op ?_
  refine x_op ?_
  refine x_op ?_
  refine x_op ?_
  refine x_op ?_
  refine x_op ?_
  refine x_op ?_
  refine x_op ?_
  refine x_op ?_
  refine x_op ?_
  refine x_op ?_
  refine x_op ?_
  refine x_op ?_
  refine x_op ?_
  refine x_op ?_
  refine x_op (h := by exact op_buildA (us := rowsI) Tryz.underlying136 TyC.h TyC.h rfl rfl rfl rfl x_goods) ?_
  refine x_op ?_
  refine il_nil ?_
  refine ic_ret ?_
  repeat (first | with_reducible refine it_ret ?_ | with_reducible refine ib_ret ?_)
  exact x_res1 Tryz.results85 rfl
def ofI (t : Int) : List IV := if t < 0 ∨ 16 < t then [.nils, .int .i64 0] else ((flats rowsI).drop (t.toNat * 2)).take 2
theorem dat_rows : ∀ x ∈ flats rowsI, Dat x := by
  have key : ∀ l : List ByteArray, Dat (.sl true (l.map IV.str)) := fun l => Dat.sl fun x hx => by
    obtain ⟨s, _, rfl⟩ := List.mem_map.1 hx
    exact .str _
  intro x hx
  simp only [flats, rowsI, List.flatMap_cons, List.flatMap_nil, flat, List.cons_append, List.nil_append, List.append_nil, List.mem_cons, List.not_mem_nil, or_false] at hx
  rcases hx with rfl | rfl | rfl | rfl | rfl | rfl | rfl | rfl | rfl | rfl | rfl | rfl | rfl | rfl | rfl | rfl | rfl | rfl | rfl | rfl | rfl | rfl | rfl | rfl | rfl | rfl | rfl | rfl | rfl | rfl | rfl | rfl | rfl | rfl <;>
    first | exact Dat.int _ _ | exact Dat.nils | exact key [_] | exact key [_, _] | exact key [_, _, _]
theorem dat_of (t : Int) : ∀ x ∈ ofI t, Dat x := by
  intro x hx
  unfold ofI at hx
  split at hx
  · simp only [List.mem_cons, List.not_mem_nil, or_false] at hx
    rcases hx with rfl | rfl
    · exact Dat.nils
    · exact Dat.int _ _
  · exact dat_rows x (List.mem_of_mem_drop (List.mem_of_mem_take hx))
theorem of_t {t : Int} (h0 : ¬ t < 0) (h1 : ¬ 16 < t) : t = 0 ∨ t = 1 ∨ t = 2 ∨ t = 3 ∨ t = 4 ∨ t = 5 ∨ t = 6 ∨ t = 7 ∨ t = 8 ∨ t = 9 ∨ t = 10 ∨ t = 11 ∨ t = 12 ∨ t = 13 ∨ t = 14 ∨ t = 15 ∨ t = 16 := by omega
theorem of_cls (t : Int) : (ofI t)[1]? = some (.int .i64 (clsV t)) := by
  unfold ofI clsV
  by_cases h : t < 0 ∨ 16 < t
  · rw [if_pos h, if_pos h]; rfl
  · rw [if_neg h, if_neg h]
    rcases of_t (fun x => h (.inl x)) (fun x => h (.inr x)) with rfl | rfl | rfl | rfl | rfl | rfl | rfl | rfl | rfl | rfl | rfl | rfl | rfl | rfl | rfl | rfl | rfl <;> rfl
theorem of_calls (t : Int) : ICalls Tryz.prog 68 [.int .i64 t] [] (fun u _ => u = .agg (ofI t)) := by
  have hdr : Dat (.agg (flats rowsI)) := Dat.agg dat_rows
  refine x_enter Tryz.func68 Tryz.ntmps68 ?_
  refine ic_seq ?_
  refine ic_region ?_
  refine x_op ?_
  refine il_nil ?_
  refine ic_seq ?_
  refine ic_seq ?_
  refine ic_region ?_
  refine x_op ?_
  refine x_op ?_
  refine x_op ?_
  rcases Bool.eq_false_or_eq_true (decide (t < 0)) with h | h
  · have ht : ofI t = [.nils, .int .i64 0] := by unfold ofI; rw [if_pos (.inl (of_decide_eq_true h))]
    simp only [h]
    first | refine n_op ?_ | refine y_op ?_
    first | refine n_op ?_ | refine y_op ?_
    refine x_op ?_
    refine il_nil ?_
    refine ic_cond rfl (fun hc => ?_) (fun hc => ?_) -- t8
    · -- true
      rw [ht]
      refine ic_seq ?_
      refine ic_region ?_
      refine x_op ?_
      refine x_op ?_
      refine il_nil ?_
      refine ic_ret ?_
      repeat (first | with_reducible refine it_ret ?_ | with_reducible refine ib_ret ?_)
      exact x_res1 Tryz.results68 rfl
    · cases hc
  · simp only [h]
    first | refine n_op ?_ | refine y_op ?_
    first | refine n_op ?_ | refine y_op ?_
    refine x_op ?_
    refine il_nil ?_
    refine ic_cond rfl (fun hc => ?_) (fun hc => ?_) -- t8
    · -- true
      have ht : ofI t = [.nils, .int .i64 0] := by unfold ofI; rw [if_pos (.inr (of_decide_eq_true hc))]
      rw [ht]
      refine ic_seq ?_
      refine ic_region ?_
      refine x_op ?_
      refine x_op ?_
      refine il_nil ?_
      refine ic_ret ?_
      repeat (first | with_reducible refine it_ret ?_ | with_reducible refine ib_ret ?_)
      exact x_res1 Tryz.results68 rfl
    · -- false
      refine ic_skip ?_
      refine ic_seq ?_
      refine ic_region ?_
      rcases of_t (of_decide_eq_false h) (of_decide_eq_false hc) with rfl | rfl | rfl | rfl | rfl | rfl | rfl | rfl | rfl | rfl | rfl | rfl | rfl | rfl | rfl | rfl | rfl
      all_goals refine x_cv table_calls ?_
      all_goals refine x_op ?_
      all_goals refine x_op (h := by exact op_indexA Tryz.underlying136 TyC.h rfl rfl rfl (by omega) (by omega)) ?_
      all_goals refine x_op ?_
      all_goals refine il_nil ?_
      all_goals refine ic_ret ?_
      all_goals (repeat (first | with_reducible refine it_ret ?_ | with_reducible refine ib_ret ?_))
      all_goals exact x_res1 Tryz.results68 rfl
theorem class_calls' (t : Int) : ICalls Tryz.prog 41 [.int .i64 t] [] (fun u _ => u = .int .i64 (clsV t)) := by
  have hdr : Dat (.agg (ofI t)) := Dat.agg (dat_of t)
  refine x_enter Tryz.func41 Tryz.ntmps41 ?_
  refine ic_seq ?_
  refine ic_region ?_
  refine x_op ?_
  refine il_nil ?_
  refine ic_seq ?_
  refine ic_region ?_
  refine x_op ?_
  refine x_cv (of_calls t) ?_
  refine x_op (h := by exact op_field1 FldVC.h rfl rfl (of_cls t)) ?_
  refine x_op ?_
  refine il_nil ?_
  refine ic_ret ?_
  repeat (first | with_reducible refine it_ret ?_ | with_reducible refine ib_ret ?_)
  exact x_res1 Tryz.results41 rfl
end Go.Proofs.YtokbhcnomffopaaGreatDoor
end

section
/- QL, part 3: a call with a pointer to one box; what the finder finds. No program in sight. -/
set_option linter.unusedVariables false
set_option linter.unusedSimpArgs false
namespace Go.QL
open Go Go.RowKit
section
variable {P : Program} {r : RN} {Q : IPost} {a a' : IA} {σ σ' : List IObj} {ops : Array Oper} {o : Oper} {rest : List Oper}
theorem x_cvP {f : FuncId} {g : Operand} {args : Array Operand} {tys : Array TypeId} {fs cs asx asx' ds ds' : List IV} {T : TypeId} {k : Nat} {v : IV} (hc : ICalls P f (.ptr 0 0 :: asx) [.box T ds] (fun u σ' => u = v ∧ σ'[0]? = some (.box T ds'))) (K : IL P r ops Q rest a' σ') [hF : FunC P f] (hk : σ[k]? = some (.box T ds) := by rfl) (hg : o.guard = none := by rfl) (ho : o.op = .call { callee := .value g, args := args, argTypes := tys } := by rfl)
    (he : ev a g = .fn (.func f) fs cs := by rfl) (has : fs ++ args.toList.map (ev a) ++ cs = .ptr k 0 :: asx' := by exact x_nf) (hw : Wks asx' asx := by exact x_wks) (hd : ∀ x ∈ asx, Dat x := by exact x_dats) (h1 : ∀ x ∈ ds, Dat x := by exact x_dats) (h2 : ∀ x ∈ ds', Dat x := by exact x_dats) (hu : Dat v := by exact x_dat) (ha : a.put o.dst v = a' := by exact x_nf) (hs : σ.set k (.box T ds') = σ' := by exact x_nf) : IL P r ops Q (o :: rest) a σ := by
  subst hs
  exact il_call hg ho he has ((hc.frameP hd h1 h2 hu hk).wks (.cons (.refl _) hw)) fun v' σ'' ⟨h1, h2⟩ => by subst h1; subst h2; rw [ha]; exact K
end
/-- A path: nil if it is empty. -/
def eIp (l : List Int) : IV := if l = [] then .nils else .sl false (l.map eI)
theorem dat_eIp (l : List Int) : Dat (eIp l) := by unfold eIp; split; exact Dat.nils; exact Dat.sl (dat_map dat_eI l)
theorem eIp_snoc (l : List Int) (i : Int) : eIp (l ++ [i]) = .sl false ((l ++ [i]).map eI) := by unfold eIp; rw [if_neg (by simp)]
theorem eIp_wk (l : List Int) : Wk (eIp l) (eIs l) := by
  unfold eIp eIs
  split
  · next h => subst h; exact Wk.nils _
  · exact Wk.refl _
mutual
def lineF : Nd → List Int → Int → Option (List Int × Nd) × Int
  | .mk _ _ _ kids, path, lines => lineL kids 0 path lines
def lineL : List Nd → Int → List Int → Int → Option (List Int × Nd) × Int
  | [], _, _, lines => (none, lines)
  | k :: ks, i, path, lines =>
    if clsV k.tag = 3 then (if lines = 0 then (some (path ++ [i], k), lines) else lineL ks (i + 1) path (lines - 1))
    else match lineF k (path ++ [i]) lines with
      | (some r, l) => (some r, l)
      | (none, l) => lineL ks (i + 1) path l
end
def lineR : Option (List Int × Nd) → IV
  | some (p, n) => .tup [eIp p, eN n, .bool true]
  | none => .tup [.nils, eN zeroN, .bool false]
theorem dat_lineR (r : Option (List Int × Nd)) : Dat (lineR r) := by
  rcases r with _ | ⟨p, n⟩
  · exact Dat.tup (dat_cons Dat.nils (dat_cons (dat_eN _) (dat_cons (Dat.bool _) dat_nil)))
  · exact Dat.tup (dat_cons (dat_eIp _) (dat_cons (dat_eN _) (dat_cons (Dat.bool _) dat_nil)))
theorem lineF_eq (n : Nd) (path : List Int) (lines : Int) : lineF n path lines = lineL n.kids 0 path lines := by cases n; rw [lineF]; rfl
mutual
theorem lineF_ge : ∀ (n : Nd) (path : List Int) (lines : Int), 0 ≤ lines → 0 ≤ (lineF n path lines).2 ∧ (lineF n path lines).2 ≤ lines
  | .mk _ _ _ kids, path, lines, h => by rw [lineF]; exact lineL_ge kids 0 path lines h
theorem lineL_ge : ∀ (l : List Nd) (i : Int) (path : List Int) (lines : Int), 0 ≤ lines → 0 ≤ (lineL l i path lines).2 ∧ (lineL l i path lines).2 ≤ lines
  | [], i, path, lines, h => by rw [lineL]; exact ⟨h, Int.le_refl _⟩
  | k :: ks, i, path, lines, h => by
    rw [lineL]
    split
    · split
      · exact ⟨h, Int.le_refl _⟩
      · have := lineL_ge ks (i + 1) path (lines - 1) (by omega)
        omega
    · have h1 := lineF_ge k (path ++ [i]) lines h
      split
      · next r l e => rw [e] at h1; exact h1
      · next l e =>
        rw [e] at h1
        have h2 := lineL_ge ks (i + 1) path l h1.1
        have h1 : 0 ≤ l ∧ l ≤ lines := h1
        omega
end
mutual
def leafF : Nd → List Int → Int → Option (List Int × Int) × Int
  | .mk _ _ _ kids, path, c => leafL kids 0 path c
def leafL : List Nd → Int → List Int → Int → Option (List Int × Int) × Int
  | [], _, _, c => (none, c)
  | k :: ks, i, path, c =>
    if k.tag = 16 then (if c = 1 then (some (path, i + 1), c) else leafL ks (i + 1) path (c - 1))
    else if k.tag = 0 then (if c ≤ (Lib.runeCount k.text : Int) then (some (path ++ [i], c), c) else leafL ks (i + 1) path (c - (Lib.runeCount k.text : Int)))
    else match leafF k (path ++ [i]) c with
      | (some r, c') => (some r, c')
      | (none, c') => leafL ks (i + 1) path c'
end
def leafR : Option (List Int × Int) → IV
  | some (p, a) => .tup [.agg [eIp p, .int .i64 a], .bool true]
  | none => .tup [.agg [.nils, .int .i64 0], .bool false]
theorem dat_leafR (r : Option (List Int × Int)) : Dat (leafR r) := by
  rcases r with _ | ⟨p, n⟩
  · exact Dat.tup (dat_cons (Dat.agg (dat_cons Dat.nils (dat_cons (Dat.int _ _) dat_nil))) (dat_cons (Dat.bool _) dat_nil))
  · exact Dat.tup (dat_cons (Dat.agg (dat_cons (dat_eIp _) (dat_cons (Dat.int _ _) dat_nil))) (dat_cons (Dat.bool _) dat_nil))
theorem leafF_eq (n : Nd) (path : List Int) (c : Int) : leafF n path c = leafL n.kids 0 path c := by cases n; rw [leafF]; rfl
theorem eIp_or (l : List Int) : eIp l = .nils ∨ eIp l = .sl false (l.map eI) := by unfold eIp; split; exact .inl rfl; exact .inr rfl
mutual
theorem leafF_ge : ∀ (n : Nd) (path : List Int) (c : Int), 1 ≤ c → 1 ≤ (leafF n path c).2 ∧ (leafF n path c).2 ≤ c
  | .mk _ _ _ kids, path, c, h => by rw [leafF]; exact leafL_ge kids 0 path c h
theorem leafL_ge : ∀ (l : List Nd) (i : Int) (path : List Int) (c : Int), 1 ≤ c → 1 ≤ (leafL l i path c).2 ∧ (leafL l i path c).2 ≤ c
  | [], i, path, c, h => by rw [leafL]; exact ⟨h, Int.le_refl _⟩
  | k :: ks, i, path, c, h => by
    rw [leafL]
    split
    · split
      · exact ⟨h, Int.le_refl _⟩
      · have := leafL_ge ks (i + 1) path (c - 1) (by omega)
        omega
    · split
      · split
        · exact ⟨h, Int.le_refl _⟩
        · have := leafL_ge ks (i + 1) path (c - (Lib.runeCount k.text : Int)) (by omega)
          omega
      · have h1 := leafF_ge k (path ++ [i]) c h
        split
        · next r l e => rw [e] at h1; exact h1
        · next l e =>
          rw [e] at h1
          have h2 := leafL_ge ks (i + 1) path l h1.1
          have h1 : 1 ≤ l ∧ l ≤ c := h1
          omega
end
theorem tbl_mem {n : Nd} : ∀ {l : List Nd}, n ∈ l → n.tb ≤ tbl l
  | [], h => by cases h
  | x :: l, h => by
    simp only [tbl]
    rcases List.mem_cons.1 h with rfl | h
    · omega
    · have := tbl_mem h; omega
end Go.QL
end

section
/- The contract of finder.line. -/
set_option linter.unusedVariables false
set_option linter.unusedSimpArgs false
set_option maxHeartbeats 4000000
namespace Go.Proofs.YtokbhcnomffopaaGreatDoor
open Go Go.QL

abbrev fdr (l c : Int) : IObj := .box 69 [.int .i64 l, .int .i64 c]
theorem line_calls2 : ∀ (m : Nat) (n : Nd) (path : List Int) (lines cells : Int), n.sz ≤ m → path.length + m ≤ 1073741824 → 0 ≤ lines → lines ≤ 4294967296 →
    ICalls Tryz.prog 35 [.ptr 0 0, eN n, eIp path] [fdr lines cells] (fun u σ' => u = lineR (lineF n path lines).1 ∧ σ'[0]? = some (fdr (lineF n path lines).2 cells))
  | 0, n, path, lines, cells, hn, hp, h0, h1 => by have := n.sz_eq; omega
  | m + 1, n, path, lines, cells, hn, hp, h0, h1 => by
    have hsz := n.sz_eq
    have hkl := szl_len n.kids
    have dp := dat_eIp path
    rw [lineF_eq]
    refine x_enter Tryz.func35 Tryz.ntmps35 ?_
    refine ic_seq ?_
    refine ic_region ?_
    refine x_op ?_
    refine x_op ?_
    refine x_op ?_
    refine x_op ?_
    refine il_nil ?_
    refine ic_seq ?_
    refine ic_seq ?_
    refine ic_region ?_
    refine x_op ?_
    refine x_op ?_
    refine x_op ?_
    refine x_op ?_
    refine il_nil ?_
    refine ic_block ?_ -- 0
    refine x_loop [18] [6, 8, 9, 10, 11, 12, 13, 14, 19, 20, 21, 22, 23, 24, 25, 26, 27, 28, 29, 30, 31, 32, 33, 34, 35, 36, 37, 38, 39, 40, 41, 42, 43, 44, 45, 46, 47, 48, 49, 50, 51, 52, 53, 54, 55, 56, 57] (fun m vs σ => ∃ (i : Nat) (l : Int), i ≤ n.kids.length ∧ lineL (n.kids.drop i) i path l = lineL n.kids 0 path lines ∧ 0 ≤ l ∧ l ≤ lines ∧ m = n.kids.length - i ∧ vs = [.int .i64 i] ∧ σ = [fdr l cells, .box 35 (ndc n), .box 35 [.int .i64 0, .nils, .str ⟨#[]⟩, .nils]]) ⟨0, lines, Nat.zero_le _, rfl, h0, Int.le_refl _, rfl, rfl, rfl⟩ ?_
    rintro k vs σ ⟨i, l, hi, hl, hl0, hl1, rfl, rfl, rfl⟩
    simp only [sets, nf, ndc]
    refine ic_seq ?_
    refine ic_region ?_
    refine x_op ?_
    refine il_nil ?_
    refine ic_seq ?_
    refine ic_cond rfl (fun hc => ?_) (fun hc => ?_) -- t19
    · -- true
      have hil : i < n.kids.length := by have := of_decide_eq_true hc; omega
      obtain ⟨k, hk⟩ : ∃ k, n.kids[i] = k := ⟨_, rfl⟩
      have hxi : (n.kids.map eN)[((i : Nat) : Int).toNat]? = some (eN k) := by simp [hil, hk]
      have hks : k.sz ≤ szl n.kids := szl_mem (hk ▸ List.getElem_mem hil)
      rw [List.drop_eq_getElem_cons hil, hk, lineL] at hl
      refine ic_skip ?_
      refine x_mid [] [6, 8, 9, 10, 11, 12, 13, 14, 20, 21, 22, 23, 24, 25, 26, 27, 28, 29, 30, 31, 32, 33, 34, 35, 36, 37, 38, 39, 40, 41, 42, 43, 44, 45, 46, 47, 48, 49, 50, 51, 52, 53, 54, 55, 56] (fun vs σ => vs = [] ∧ ∃ l' : Int, lineL (n.kids.drop (i + 1)) ((i + 1 : Nat) : Int) path l' = lineL n.kids 0 path lines ∧ 0 ≤ l' ∧ l' ≤ lines ∧ σ = [fdr l' cells, .box 35 (ndc n), .box 35 [.int .i64 0, .nils, .str ⟨#[]⟩, .nils]]) ?_ ?_
      ·
        refine ic_block ?_ -- 1
        refine ic_seq ?_
        refine ic_region ?_
        refine x_op ?_
        refine x_op ?_
        refine x_op ?_
        refine x_op ?_
        refine x_op ?_
        refine x_op ?_
        refine il_nil ?_
        refine x_mid [11] [23, 24, 25, 26, 27] (fun vs σ => vs = [.sl false ((path ++ [(i : Int)]).map eI)] ∧ σ = [fdr l cells, .box 35 (ndc n), .box 35 [.int .i64 0, .nils, .str ⟨#[]⟩, .nils], .box 35 (ndc k)]) ?_ ?_
        · by_cases hpe : path = []
          · subst hpe
            simp only [show eIp [] = IV.nils from rfl]
            refine ic_region ?_
            refine x_op ?_
            refine x_cv (cloneInil_calls) ?_
            refine x_op ?_
            refine x_op ?_
            refine x_op ?_
            refine il_frow 4 ?_
            refine x_op ?_
            refine il_nil ?_
            exact x_here ⟨rfl, rfl⟩
          · have he : eIp path = .sl false (path.map eI) := by unfold eIp; rw [if_neg hpe]
            simp only [he]
            refine ic_region ?_
            refine x_op ?_
            refine x_crow (cloneI_calls path false hpe (by omega)) (dat_map dat_eI path) ?_
            refine x_op ?_
            refine x_op ?_
            refine x_op ?_
            simp only [show path.length + 1 = (path ++ [(i : Int)]).length by simp, show path.map eI ++ [IV.int .i64 i] = (path ++ [(i : Int)]).map eI by rw [List.map_append]; rfl]
            refine il_frow 4 ?_
            refine x_op ?_
            refine il_nil ?_
            exact x_here ⟨rfl, rfl⟩
        rintro vs σ ⟨rfl, rfl⟩
        simp only [sets, nf, ndc]
        refine ic_seq ?_
        refine ic_seq ?_
        refine ic_region ?_
        refine x_op ?_
        refine x_op ?_
        refine x_cv (class_calls' k.tag) ?_
        refine x_op ?_
        refine il_nil ?_
        refine ic_cond rfl (fun hc => ?_) (fun hc => ?_) -- t31
        · -- true
          rw [if_pos (of_decide_eq_true hc)] at hl
          refine ic_seq ?_
          refine ic_seq ?_
          refine ic_region ?_
          refine x_op ?_
          refine x_op ?_
          refine x_op ?_
          refine x_op ?_
          refine x_op ?_
          refine il_nil ?_
          refine ic_cond rfl (fun hc => ?_) (fun hc => ?_) -- t36
          · -- true
            rw [if_pos (of_decide_eq_true hc)] at hl
            rw [← hl]
            simp only [lineR, eIp_snoc]
            refine ic_seq ?_
            refine ic_drawq 3 (by kernel_rfl) rfl rfl ?_
            refine q_op ?_
            refine q_op ?_
            refine q_op ?_
            refine iq_nil ?_
            refine d_op 3 ?_
            refine d_op 4 ?_
            refine d_done ?_
            refine ic_ret ?_
            repeat (first | with_reducible refine it_ret ?_ | with_reducible refine ib_ret ?_)
            exact x_res3 Tryz.results35 ⟨rfl, rfl⟩
          · -- false
            have hne : ¬ l = 0 := of_decide_eq_false hc
            rw [if_neg hne] at hl
            refine ic_skip ?_
            refine ic_seq ?_
            refine ic_region ?_
            refine x_op ?_
            refine x_op ?_
            refine x_op ?_
            refine x_op ?_
            refine x_op ?_
            refine x_op ?_
            refine x_op ?_
            refine x_op ?_
            refine il_nil ?_
            refine ic_exit ?_ -- 1
            exact x_here ⟨rfl, l - 1, hl, by omega, by omega, rfl⟩
        · -- false
          rw [if_neg (of_decide_eq_false hc)] at hl
          have hcall := line_calls2 m k (path ++ [(i : Int)]) l cells (by omega) (by rw [List.length_append, List.length_cons, List.length_nil]; omega) hl0 (by omega)
          have hge := lineF_ge k (path ++ [(i : Int)]) l hl0
          rw [eIp_snoc] at hcall
          have dps : Dat (.sl false ((path ++ [(i : Int)]).map eI)) := Dat.sl (dat_map dat_eI _)
          refine ic_skip ?_
          refine ic_seq ?_
          refine ic_region ?_
          refine x_op ?_
          refine x_op ?_
          refine x_op ?_
          rcases e : lineF k (path ++ [(i : Int)]) l with ⟨_ | ⟨q, mn⟩, l'⟩
          · rw [e] at hcall hl hge
            simp only [lineR] at hcall
            refine x_cvP (k := 0) hcall ?_
            refine x_op ?_
            refine x_op ?_
            refine x_op ?_
            refine x_op ?_
            refine x_op ?_
            refine x_op ?_
            refine x_op ?_
            refine x_op ?_
            refine il_nil ?_
            refine ic_seq ?_
            refine ic_region ?_
            refine x_op ?_
            refine il_nil ?_
            refine ic_cond rfl (fun hc => ?_) (fun hc => ?_) -- t54
            · cases hc
            · refine ic_skip ?_
              exact x_here ⟨rfl, l', hl, hge.1, Int.le_trans hge.2 hl1, rfl⟩
          · rw [e] at hcall hl hge
            simp only [lineR] at hcall
            have dq := dat_eIp q
            refine x_cvP (k := 0) hcall ?_
            refine x_op ?_
            refine x_op ?_
            refine x_op ?_
            refine x_op ?_
            refine x_op ?_
            refine x_op ?_
            refine x_op ?_
            refine x_op ?_
            refine il_nil ?_
            refine ic_seq ?_
            refine ic_region ?_
            refine x_op ?_
            refine il_nil ?_
            refine ic_cond rfl (fun hc => ?_) (fun hc => ?_) -- t54
            · rw [← hl]
              refine ic_seq ?_
              refine ic_drawq 3 (by kernel_rfl) rfl rfl ?_
              refine q_op ?_
              refine q_op ?_
              refine q_op ?_
              refine iq_nil ?_
              refine d_op 3 ?_
              refine d_op 4 ?_
              refine d_done ?_
              refine ic_ret ?_
              repeat (first | with_reducible refine it_ret ?_ | with_reducible refine ib_ret ?_)
              exact x_res3 Tryz.results35 ⟨rfl, rfl⟩
            · cases hc
      rintro vs σ ⟨rfl, l', hl', hl0', hl1', rfl⟩
      simp only [sets, nf, ndc]
      refine ic_region ?_
      refine x_op ?_
      refine x_op ?_
      refine il_nil ?_
      exact x_next (n.kids.length - (i + 1)) ⟨i + 1, l', by omega, hl', hl0', hl1', rfl, rfl, rfl⟩ (by omega) -- round
    · -- false
      refine ic_exit ?_ -- 0
      obtain rfl : i = n.kids.length := by have := of_decide_eq_false hc; omega
      rw [List.drop_length] at hl
      rw [← hl, lineL]
      refine ic_seq ?_
      refine ic_region ?_
      refine x_op ?_
      refine x_op ?_
      refine x_op ?_
      refine x_op ?_
      refine il_nil ?_
      refine ic_ret ?_
      repeat (first | with_reducible refine it_ret ?_ | with_reducible refine ib_ret ?_)
      exact x_res3 Tryz.results35 ⟨rfl, rfl⟩
end Go.Proofs.YtokbhcnomffopaaGreatDoor
end

section
/- The contract of finder.leaf. -/
set_option linter.unusedVariables false
set_option linter.unusedSimpArgs false
set_option maxHeartbeats 4000000
namespace Go.Proofs.YtokbhcnomffopaaGreatDoor
open Go Go.QL

theorem leaf_calls2 : ∀ (m : Nat) (n : Nd) (path : List Int) (lines c0 : Int), n.sz ≤ m → path.length + m ≤ 1073741824 → n.tb ≤ 1073741824 → 1 ≤ c0 → c0 ≤ 4294967296 →
    ICalls Tryz.prog 36 [.ptr 0 0, eN n, eIp path] [fdr lines c0] (fun u σ' => u = leafR (leafF n path c0).1 ∧ σ'[0]? = some (fdr lines (leafF n path c0).2))
  | 0, n, path, lines, c0, hn, hp, ht, h0, h1 => by have := n.sz_eq; omega
  | m + 1, n, path, lines, c0, hn, hp, ht, h0, h1 => by
    have hsz := n.sz_eq
    have htb := n.tb_eq
    have hkl := szl_len n.kids
    have dp := dat_eIp path
    rw [leafF_eq]
    refine x_enter Tryz.func36 Tryz.ntmps36 ?_
    refine ic_seq ?_
    refine ic_region ?_
    refine x_op ?_
    refine x_op ?_
    refine x_op ?_
    refine il_nil ?_
    refine ic_seq ?_
    refine ic_seq ?_
    refine ic_region ?_
    refine x_op ?_
    refine x_op ?_
    refine x_op ?_
    refine x_op ?_
    refine il_nil ?_
    refine ic_block ?_ -- 0
    refine x_loop [17] [7, 8, 9, 10, 11, 12, 13, 18, 19, 20, 21, 22, 23, 24, 25, 26, 27, 28, 29, 30, 31, 32, 33, 34, 35, 36, 37, 38, 39, 40, 41, 42, 43, 44, 45, 46, 47, 48, 49, 50, 51, 52, 53, 54, 55, 56, 57, 58, 59, 60, 61, 62, 63, 64, 65, 66, 67, 68, 69, 70, 71, 72, 73, 74, 75, 76, 77] (fun m vs σ => ∃ (i : Nat) (c : Int), i ≤ n.kids.length ∧ leafL (n.kids.drop i) i path c = leafL n.kids 0 path c0 ∧ 1 ≤ c ∧ c ≤ c0 ∧ m = n.kids.length - i ∧ vs = [.int .i64 i] ∧ σ = [fdr lines c, .box 35 (ndc n), .box 45 [.nils, .int .i64 0]]) ⟨0, c0, Nat.zero_le _, rfl, h0, Int.le_refl _, rfl, rfl, rfl⟩ ?_
    rintro k vs σ ⟨i, c, hi, hl, hl0, hl1, rfl, rfl, rfl⟩
    simp only [sets, nf, ndc]
    refine ic_seq ?_
    refine ic_region ?_
    refine x_op ?_
    refine il_nil ?_
    refine ic_seq ?_
    refine ic_cond rfl (fun hc => ?_) (fun hc => ?_) -- t18
    · -- true
      have hil : i < n.kids.length := by have := of_decide_eq_true hc; omega
      obtain ⟨k, hk⟩ : ∃ k, n.kids[i] = k := ⟨_, rfl⟩
      have hxi : (n.kids.map eN)[((i : Nat) : Int).toNat]? = some (eN k) := by simp [hil, hk]
      have hks : k.sz ≤ szl n.kids := szl_mem (hk ▸ List.getElem_mem hil)
      have hkt : k.tb ≤ tbl n.kids := tbl_mem (hk ▸ List.getElem_mem hil)
      have hkt2 := k.tb_eq
      have hrc := Lib.runeCount_le k.text
      rw [List.drop_eq_getElem_cons hil, hk, leafL] at hl
      refine ic_skip ?_
      refine x_mid [] [7, 8, 9, 10, 11, 12, 13, 19, 20, 21, 22, 23, 24, 25, 26, 27, 28, 29, 30, 31, 32, 33, 34, 35, 36, 37, 38, 39, 40, 41, 42, 43, 44, 45, 46, 47, 48, 49, 50, 51, 52, 53, 54, 55, 56, 57, 58, 59, 60, 61, 62, 63, 64, 65, 66, 67, 68, 69, 70, 71, 72, 73, 74, 75, 76] (fun vs σ => vs = [] ∧ ∃ c' : Int, leafL (n.kids.drop (i + 1)) ((i + 1 : Nat) : Int) path c' = leafL n.kids 0 path c0 ∧ 1 ≤ c' ∧ c' ≤ c0 ∧ σ = [fdr lines c', .box 35 (ndc n), .box 45 [.nils, .int .i64 0]]) ?_ ?_
      ·
        refine ic_block ?_ -- 1
        refine ic_seq ?_
        refine ic_region ?_
        refine x_op ?_
        refine x_op ?_
        refine x_op ?_
        refine x_op ?_
        refine x_op ?_
        refine x_op ?_
        refine il_nil ?_
        refine x_mid [10] [22, 23, 24, 25, 26] (fun vs σ => vs = [.sl false ((path ++ [(i : Int)]).map eI)] ∧ σ = [fdr lines c, .box 35 (ndc n), .box 45 [.nils, .int .i64 0], .box 35 (ndc k)]) ?_ ?_
        · by_cases hpe : path = []
          · subst hpe
            simp only [show eIp [] = IV.nils from rfl]
            refine ic_region ?_
            refine x_op ?_
            refine x_cv (cloneInil_calls) ?_
            refine x_op ?_
            refine x_op ?_
            refine x_op ?_
            refine il_frow 4 ?_
            refine x_op ?_
            refine il_nil ?_
            exact x_here ⟨rfl, rfl⟩
          · have he : eIp path = .sl false (path.map eI) := by unfold eIp; rw [if_neg hpe]
            simp only [he]
            refine ic_region ?_
            refine x_op ?_
            refine x_crow (cloneI_calls path false hpe (by omega)) (dat_map dat_eI path) ?_
            refine x_op ?_
            refine x_op ?_
            refine x_op ?_
            simp only [show path.length + 1 = (path ++ [(i : Int)]).length by simp, show path.map eI ++ [IV.int .i64 i] = (path ++ [(i : Int)]).map eI by rw [List.map_append]; rfl]
            refine il_frow 4 ?_
            refine x_op ?_
            refine il_nil ?_
            exact x_here ⟨rfl, rfl⟩
        rintro vs σ ⟨rfl, rfl⟩
        simp only [sets, nf, ndc]
        refine ic_seq ?_
        refine ic_region ?_
        refine x_op ?_
        refine x_op ?_
        refine x_cv (count_calls k.text (by omega)) ?_
        refine x_op ?_
        refine il_nil ?_
        refine x_mid [11] [7, 12, 13, 30, 31, 32, 33, 34, 35, 36, 37, 38, 39, 40, 41, 42, 43, 44, 45, 46, 47, 48, 49, 50, 51, 52, 53, 54, 55, 56, 57, 58, 59, 60, 61, 62, 63, 64, 65, 66, 67, 68] (fun vs σ => ∃ size : Int, leafL (n.kids.drop (i + 1)) ((i + 1 : Nat) : Int) path (c - size) = leafL n.kids 0 path c0 ∧ 1 ≤ c - size ∧ 0 ≤ size ∧ vs = [.int .i64 size] ∧ σ = [fdr lines c, .box 35 (ndc n), .box 45 [.nils, .int .i64 0], .box 35 (ndc k)]) ?_ ?_
        ·
          refine ic_block ?_ -- 2
          refine ic_seq ?_
          refine ic_region ?_
          refine x_op ?_
          refine x_op ?_
          refine x_op ?_
          refine x_op ?_
          refine il_nil ?_
          refine ic_cond rfl (fun hc => ?_) (fun hc => ?_) -- t30
          · -- true
            rw [if_pos (of_decide_eq_true hc)] at hl
            refine ic_seq ?_
            refine ic_region ?_
            refine x_op ?_
            refine il_nil ?_
            refine ic_seq ?_
            refine ic_region ?_
            refine x_op ?_
            refine x_op ?_
            refine x_op ?_
            refine x_op ?_
            refine x_op ?_
            refine il_nil ?_
            refine ic_cond rfl (fun hc => ?_) (fun hc => ?_) -- t38
            · -- true
              rw [if_pos (of_decide_eq_true hc)] at hl
              rw [← hl]
              simp only [leafR]
              rcases eIp_or path with he | he
              · simp only [he]
                refine ic_seq ?_
                refine ic_region ?_
                refine x_op ?_
                refine x_op ?_
                refine x_op ?_
                refine x_op ?_
                refine x_op ?_
                refine x_op ?_
                refine il_nil ?_
                refine ic_ret ?_
                repeat (first | with_reducible refine it_ret ?_ | with_reducible refine ib_ret ?_)
                exact x_res2 Tryz.results36 ⟨rfl, rfl⟩
              · simp only [he]
                refine ic_seq ?_
                refine ic_region ?_
                refine x_op ?_
                refine x_op ?_
                refine x_op ?_
                refine x_op ?_
                refine x_op ?_
                refine x_op ?_
                refine il_nil ?_
                refine ic_ret ?_
                repeat (first | with_reducible refine it_ret ?_ | with_reducible refine ib_ret ?_)
                exact x_res2 Tryz.results36 ⟨rfl, rfl⟩
            · -- false
              have hne : ¬ c = 1 := of_decide_eq_false hc
              rw [if_neg hne] at hl
              refine ic_skip ?_
              exact x_here ⟨1, hl, by omega, by omega, rfl, rfl⟩
          · -- false
            rw [if_neg (of_decide_eq_false hc)] at hl
            refine ic_seq ?_
            refine ic_region ?_
            refine x_op ?_
            refine x_op ?_
            refine x_op ?_
            refine x_op ?_
            refine il_nil ?_
            refine ic_cond rfl (fun hc => ?_) (fun hc => ?_) -- t43
            · -- true
              have hne : ¬ k.tag = 0 := by simpa using hc
              rw [if_neg hne] at hl
              have hcall := leaf_calls2 m k (path ++ [(i : Int)]) lines c (by omega) (by rw [List.length_append, List.length_cons, List.length_nil]; omega) (by omega) hl0 (by omega)
              have hge := leafF_ge k (path ++ [(i : Int)]) c hl0
              rw [eIp_snoc] at hcall
              have dps : Dat (.sl false ((path ++ [(i : Int)]).map eI)) := Dat.sl (dat_map dat_eI _)
              refine ic_seq ?_
              refine ic_seq ?_
              refine ic_region ?_
              refine x_op ?_
              refine x_op ?_
              refine x_op ?_
              rcases e : leafF k (path ++ [(i : Int)]) c with ⟨_ | ⟨q, a⟩, c'⟩
              · rw [e] at hcall hl hge
                simp only [leafR] at hcall
                refine x_cvP (k := 0) (hu := dat_leafR none) hcall ?_
                refine x_op ?_
                refine x_op ?_
                refine x_op ?_
                refine x_op ?_
                refine x_op ?_
                refine x_op ?_
                refine il_nil ?_
                refine ic_seq ?_
                refine ic_region ?_
                refine x_op ?_
                refine il_nil ?_
                refine ic_cond rfl (fun hc => ?_) (fun hc => ?_) -- t54
                · cases hc
                · refine ic_skip ?_
                  refine ic_exit ?_ -- 1
                  exact x_here ⟨rfl, c', hl, hge.1, Int.le_trans hge.2 hl1, rfl⟩
              · rw [e] at hcall hl hge
                simp only [leafR] at hcall
                have hd := dat_leafR (some (q, a))
                simp only [leafR] at hd
                rw [← hl]
                simp only [leafR]
                rcases eIp_or q with he | he
                · rw [he] at hcall hd
                  simp only [he]
                  refine x_cvP (k := 0) (hu := hd) hcall ?_
                  refine x_op ?_
                  refine x_op ?_
                  refine x_op ?_
                  refine x_op ?_
                  refine x_op ?_
                  refine x_op ?_
                  refine il_nil ?_
                  refine ic_seq ?_
                  refine ic_region ?_
                  refine x_op ?_
                  refine il_nil ?_
                  refine ic_cond rfl (fun hc => ?_) (fun hc => ?_) -- t54
                  · refine ic_seq ?_
                    refine ic_region ?_
                    refine x_op ?_
                    refine x_op ?_
                    refine x_op ?_
                    refine il_nil ?_
                    refine ic_ret ?_
                    repeat (first | with_reducible refine it_ret ?_ | with_reducible refine ib_ret ?_)
                    exact x_res2 Tryz.results36 ⟨rfl, rfl⟩
                  · cases hc
                · rw [he] at hcall hd
                  simp only [he]
                  refine x_cvP (k := 0) (hu := hd) hcall ?_
                  refine x_op ?_
                  refine x_op ?_
                  refine x_op ?_
                  refine x_op ?_
                  refine x_op ?_
                  refine x_op ?_
                  refine il_nil ?_
                  refine ic_seq ?_
                  refine ic_region ?_
                  refine x_op ?_
                  refine il_nil ?_
                  refine ic_cond rfl (fun hc => ?_) (fun hc => ?_) -- t54
                  · refine ic_seq ?_
                    refine ic_region ?_
                    refine x_op ?_
                    refine x_op ?_
                    refine x_op ?_
                    refine il_nil ?_
                    refine ic_ret ?_
                    repeat (first | with_reducible refine it_ret ?_ | with_reducible refine ib_ret ?_)
                    exact x_res2 Tryz.results36 ⟨rfl, rfl⟩
                  · cases hc
            · -- false
              have heq : k.tag = 0 := by simpa using hc
              rw [if_pos heq] at hl
              refine ic_seq ?_
              refine ic_region ?_
              refine x_op ?_
              refine x_op ?_
              refine x_op ?_
              refine x_op ?_
              refine x_op ?_
              refine x_op ?_
              refine x_op ?_
              refine il_nil ?_
              refine ic_cond rfl (fun hc => ?_) (fun hc => ?_) -- t56
              · -- true
                rw [if_pos (of_decide_eq_true hc)] at hl
                rw [← hl]
                simp only [leafR, eIp_snoc]
                refine ic_seq ?_
                refine ic_region ?_
                refine x_op ?_
                refine x_op ?_
                refine x_op ?_
                refine x_op ?_
                refine x_op ?_
                refine x_op ?_
                refine x_op ?_
                refine x_op ?_
                refine il_nil ?_
                refine ic_ret ?_
                repeat (first | with_reducible refine it_ret ?_ | with_reducible refine ib_ret ?_)
                exact x_res2 Tryz.results36 ⟨rfl, rfl⟩
              · -- false
                have hne : ¬ c ≤ (Lib.runeCount k.text : Int) := of_decide_eq_false hc
                rw [if_neg hne] at hl
                refine ic_skip ?_
                exact x_here ⟨_, hl, by omega, by omega, rfl, rfl⟩
        rintro vs σ ⟨size, hl', hs1, hs2, rfl, rfl⟩
        simp only [sets, nf, ndc]
        refine ic_region ?_
        refine x_op ?_
        refine x_op ?_
        refine x_op ?_
        refine x_op ?_
        refine x_op ?_
        refine x_op ?_
        refine x_op ?_
        refine x_op ?_
        refine x_op ?_
        refine il_nil ?_
        exact x_here ⟨rfl, c - size, hl', hs1, by omega, rfl⟩
      rintro vs σ ⟨rfl, c', hl', hl0', hl1', rfl⟩
      simp only [sets, nf, ndc]
      refine ic_region ?_
      refine x_op ?_
      refine x_op ?_
      refine il_nil ?_
      exact x_next (n.kids.length - (i + 1)) ⟨i + 1, c', by omega, hl', hl0', hl1', rfl, rfl, rfl⟩ (by omega) -- round
    · -- false
      refine ic_exit ?_ -- 0
      obtain rfl : i = n.kids.length := by have := of_decide_eq_false hc; omega
      rw [List.drop_length] at hl
      rw [← hl, leafL]
      simp only [leafR]
      refine ic_seq ?_
      refine ic_region ?_
      refine x_op ?_
      refine x_op ?_
      refine x_op ?_
      refine il_nil ?_
      refine ic_ret ?_
      repeat (first | with_reducible refine it_ret ?_ | with_reducible refine ib_ret ?_)
      exact x_res2 Tryz.results36 ⟨rfl, rfl⟩
end Go.Proofs.YtokbhcnomffopaaGreatDoor
end

section
/- The contracts of render.Way and of what it calls (slices.Repeat). -/
set_option linter.unusedVariables false
set_option linter.unusedSimpArgs false
set_option maxHeartbeats 4000000
namespace Go.Proofs.YtokbhcnomffopaaGreatDoor
open Go Go.QL

theorem mul64_calls (n : Nat) (h : n ≤ 6) : ICalls Tryz.prog 74 [.int .u64 1, .int .u64 n] [] (fun u _ => u = .tup [.int .u64 0, .int .u64 n]) := by
  have hn : n = 0 ∨ n = 1 ∨ n = 2 ∨ n = 3 ∨ n = 4 ∨ n = 5 ∨ n = 6 := by omega
  refine x_enter Tryz.func74 Tryz.ntmps74 ?_
  rcases hn with rfl | rfl | rfl | rfl | rfl | rfl | rfl
  all_goals
    repeat (first | refine x_op ?_ | refine il_nil ?_ | refine ic_seq ?_ | refine ic_region ?_ | refine ic_block ?_ | refine ic_skip ?_ | refine ic_exit ?_)
    refine ic_ret ?_
    repeat (first | with_reducible refine it_ret ?_ | with_reducible refine ib_ret ?_)
    exact x_res2 Tryz.results74 rfl
theorem mul_calls (n : Nat) (h : n ≤ 6) : ICalls Tryz.prog 47 [.int .u64 1, .int .u64 n] [] (fun u _ => u = .tup [.int .u64 0, .int .u64 n]) := by
  refine x_enter Tryz.func47 Tryz.ntmps47 ?_
  refine ic_seq ?_
  refine ic_region ?_
  refine x_op ?_
  refine x_op ?_
  refine il_nil ?_
  refine ic_seq ?_
  refine ic_cond rfl (fun hc => by cases hc) (fun hc => ?_) -- false
  refine ic_skip ?_
  refine ic_seq ?_
  refine ic_region ?_
  refine x_op ?_
  refine x_op ?_
  refine x_cv (mul64_calls n h) ?_
  refine x_op ?_
  refine x_op ?_
  refine x_op ?_
  refine x_op ?_
  refine x_op ?_
  refine il_nil ?_
  refine ic_seq ?_
  refine ic_region ?_
  refine x_op ?_
  refine x_op ?_
  refine x_op ?_
  refine x_op ?_
  refine il_nil ?_
  refine ic_ret ?_
  repeat (first | with_reducible refine it_ret ?_ | with_reducible refine ib_ret ?_)
  exact x_res2 Tryz.results47 rfl
theorem repeat_calls (v : Int) (f : Bool) (n : Nat) (h : n ≤ 6) : ICalls Tryz.prog 27 [.sl f [eI v], .int .i64 n] [] (fun u σ' => ∃ k, u = .row k (List.replicate n (eI v)).length ∧ σ'[k]? = some (.row TB_int 1 (List.replicate n (eI v)))) := by
  have hw1 : IntKind.u64.wrap (n : Int) = n := by
    have hn : n = 0 ∨ n = 1 ∨ n = 2 ∨ n = 3 ∨ n = 4 ∨ n = 5 ∨ n = 6 := by omega
    rcases hn with rfl | rfl | rfl | rfl | rfl | rfl | rfl <;> rfl
  have hw2 : IntKind.i64.wrap (n : Int) = n := by
    have hn : n = 0 ∨ n = 1 ∨ n = 2 ∨ n = 3 ∨ n = 4 ∨ n = 5 ∨ n = 6 := by omega
    rcases hn with rfl | rfl | rfl | rfl | rfl | rfl | rfl <;> rfl
  refine x_enter Tryz.func27 Tryz.ntmps27 ?_
  refine ic_seq ?_
  refine ic_region ?_
  refine x_op ?_
  refine il_nil ?_
  refine ic_seq ?_
  refine ic_seq ?_
  refine ic_region ?_
  refine x_op ?_
  refine x_op ?_
  refine il_nil ?_
  refine ic_cond rfl (fun hc => ?_) (fun hc => ?_) -- t10
  · have := of_decide_eq_true hc; omega
  refine ic_skip ?_
  refine ic_seq ?_
  refine ic_region ?_
  refine x_op ?_
  refine x_op ?_
  refine x_op ?_
  refine x_op ?_
  refine x_op ?_
  simp only [hw1]
  refine x_cv (mul_calls n h) ?_
  refine x_op ?_
  refine x_op ?_
  refine x_op ?_
  refine x_op ?_
  refine x_op ?_
  refine il_nil ?_
  refine ic_seq ?_
  have hbig : decide ((9223372036854775807 : Int) < (n : Int)) = false := decide_eq_false (by omega)
  have hz0 : decide ((0 : Int) < 0) = false := rfl
  refine x_mid [26] [21, 22, 23, 24, 25] (fun vs σ => vs = [.bool false] ∧ σ = []) ?_ ?_
  · refine ic_region ?_
    repeat' (first | refine x_op ?_ | refine n_op ?_ | refine y_op ?_ | refine il_split (fun _ => ?_) (fun _ => ?_) | refine il_nil ?_)
    all_goals exact x_there
  rintro vs σ ⟨rfl, rfl⟩
  simp only [sets, nf]
  refine ic_cond rfl (fun hc => by cases hc) (fun hc => ?_) -- t26
  refine ic_skip ?_
  refine ic_seq ?_
  refine ic_region ?_
  refine x_op ?_
  refine x_op ?_
  simp only [hw2]
  refine x_op (h := by exact op_makeSlice (u := eI 0) SlC.h TyC.h rfl rfl rfl rfl rfl rfl (by omega) (by omega)) ?_
  refine x_op ?_
  refine il_nil ?_
  refine ic_seq ?_
  refine ic_region ?_
  refine x_op ?_
  refine x_op ?_
  have hr0 : List.replicate n (eI 0) = repR (eI v) n 0 := by simp [repR, eI]
  rw [hr0]
  refine x_op (h := by exact op_rep1 SlC.h TyC.h rfl rfl rfl rfl rfl (good_eI [v])) ?_
  refine x_op ?_
  refine il_nil ?_
  refine ic_seq ?_
  refine ic_block ?_ -- 0
  refine x_loop [8] [34, 35, 36, 37, 38, 39, 40, 41, 42, 43, 44, 45, 46] (fun m vs σ => ∃ c : Nat, c ≤ n ∧ (0 < n → 0 < c) ∧ m = n - c ∧ vs = [.int .i64 c] ∧ σ = [.row TB_int 1 (repR (eI v) n c)]) ⟨min 1 n, by omega, by omega, rfl, rfl, rfl⟩ ?_ (ho := olts_cons (olt_row fun x hx => by
    rcases List.mem_append.1 hx with hx | hx
    · rw [List.eq_of_mem_replicate hx]; exact dat_eI v
    · rw [List.eq_of_mem_replicate hx]; exact dat_eI 0) olts_nil)
  rintro m vs σ ⟨c, hc1, hc0, rfl, rfl, rfl⟩
  simp only [sets, nf]
  refine ic_seq ?_
  refine ic_seq ?_
  refine ic_region ?_
  refine x_op ?_
  refine x_op ?_
  refine x_op ?_
  refine x_op ?_
  refine il_nil ?_
  refine ic_cond rfl (fun hc => ?_) (fun hc => ?_) -- t37
  · -- true
    have hcn : c < n := by have := of_decide_eq_true hc; omega
    have hcpos := hc0 (by omega)
    have hl := repR_len (eI v) n c hc1
    refine ic_skip ?_
    refine ic_block ?_ -- 1
    refine ic_draws [0, 1, 2, 3, 4, 5, 6] (by kernel_rfl) rfl rfl ?_ -- of 10
    refine q_op ?_
    refine q_op ?_
    refine q_op ?_
    refine q_op (h := by exact op_sliceRl SlC.h TyC.h rfl rfl rfl rfl hl.symm (by omega) (by omega)) ?_
    refine q_op ?_
    refine q_op ?_
    refine q_op (h := by exact op_sliceRh SlC.h TyC.h rfl rfl rfl rfl hl.symm (by omega) (by omega) (by omega)) ?_
    refine iq_nil ?_
    refine s_opr 7 (h := by exact op_repN SlC.h TyC.h rfl rfl rfl rfl hcn rfl rfl) ?_ ?_ -- copy
    ·
      refine q_op ?_
      refine q_op ?_
      refine q_op ?_
      refine q_op (h := by exact op_sliceRl SlC.h TyC.h rfl rfl rfl rfl (repR_len _ _ _ (by omega)).symm (by omega) (by omega)) ?_
      refine q_op ?_
      refine q_op ?_
      refine q_op (h := by exact op_sliceRh SlC.h TyC.h rfl rfl rfl rfl (repR_len _ _ _ (by omega)).symm (by omega) (by omega) (by omega)) ?_
      refine iq_nil ?_
      rfl
    refine s_op 8 ?_ -- add
    refine s_op 9 ?_ -- assign
    refine s_done ?_
    simp only [Int.toNat_natCast]
    rw [show (c : Int) + ((min c (n - c) : Nat) : Int) = ((c + min c (n - c) : Nat) : Int) by omega]
    exact x_next (n - (c + min c (n - c))) ⟨c + min c (n - c), by omega, by omega, rfl, rfl, rfl⟩ (by omega) (ho := olts_cons (olt_row fun x hx => by
      rcases List.mem_append.1 hx with hx | hx
      · rw [List.eq_of_mem_replicate hx]; exact dat_eI v
      · rw [List.eq_of_mem_replicate hx]; exact dat_eI 0) olts_nil)
  · -- false
    obtain rfl : c = n := by have := of_decide_eq_false hc; omega
    have hfin : repR (eI v) c c = List.replicate c (eI v) := by simp [repR]
    rw [hfin]
    refine ic_exit ?_ -- 0
    refine ic_seq ?_
    refine ic_region ?_
    refine x_op ?_
    refine x_op ?_
    refine il_nil ?_
    refine ic_ret ?_
    repeat (first | with_reducible refine it_ret ?_ | with_reducible refine ib_ret ?_)
    exact x_res1 Tryz.results27 (u' := .row 0 c) ⟨0, by simp, rfl⟩
end Go.Proofs.YtokbhcnomffopaaGreatDoor
end
