/- The tables of this program, the proof that they fit it, its closed facts, and its data. -/
import Derived.Test.YtgnpnfkncbnjnaaAmA
import Derived.Test.YtgnpnfkncbnjnaaProg
import Derived.Test.YtgnpnfkncbnjnaaAmC
import Derived.KernelRfl
import Derived.Test.YtgnpnfkncbnjnaaAmD
import Derived.Test.YtgnpnfkncbnjnaaRows
import Derived.ProofKit
import Derived.Test.YtgnpnfkncbnjnaaChecked
set_option linter.unusedVariables false
set_option maxRecDepth 100000
namespace Go.Proofs.Ytgnpnfkncbnjnaa
open Go.Am
noncomputable def ty1 : TI := ⟨.func #[] #[] false, 1, 8, false, some .nilf, false⟩
noncomputable def ty2 : TI := ⟨.int .i64, 1, 8, false, some (.int .i64 0), false⟩
noncomputable def ty3 : TI := ⟨.int .i64, 1, 8, false, some (.int .i64 0), false⟩
noncomputable def ty4 : TI := ⟨.bool, 1, 1, false, some (.bool false), false⟩
noncomputable def ty5 : TI := ⟨.int .u8, 1, 1, false, some (.int .u8 0), false⟩
noncomputable def ty6 : TI := ⟨.int .u8, 1, 1, false, some (.int .u8 0), false⟩
noncomputable def ty9 : TI := ⟨.string, 1, 16, false, some (.str ⟨#[]⟩), false⟩
noncomputable def ty10 : TI := ⟨.string, 1, 16, false, some (.str ⟨#[]⟩), false⟩
noncomputable def ty11 : TI := ⟨.string, 1, 16, false, some (.str ⟨#[]⟩), false⟩
noncomputable def ty12 : TI := ⟨.int .u64, 1, 8, false, some (.int .u64 0), false⟩
noncomputable def ty15 : TI := ⟨.pointer 236, 1, 8, false, some .nilp, false⟩
noncomputable def ty16 : TI := ⟨.pointer 239, 1, 8, false, some .nilp, false⟩
noncomputable def ty17 : TI := ⟨.pointer 248, 1, 8, false, some .nilp, false⟩
noncomputable def ty18 : TI := ⟨.struct #[⟨ "typ", 17, 0, false, "", "internal/runtime/maps", 0⟩], 1, 8, true, some (.agg [.nilp]), false⟩
noncomputable def ty19 : TI := ⟨.struct #[⟨ "typ", 17, 0, false, "", "internal/runtime/maps", 0⟩], 1, 8, true, some (.agg [.nilp]), false⟩
noncomputable def ty21 : TI := ⟨.int .i32, 1, 4, false, some (.int .i32 0), false⟩
noncomputable def ty22 : TI := ⟨.slice 3, 1, 24, false, some .nils, false⟩
noncomputable def ty23 : TI := ⟨.pointer 132, 1, 8, false, some .nilp, false⟩
noncomputable def ty24 : TI := ⟨.func #[22] #[23] false, 1, 8, false, some .nilf, false⟩
noncomputable def ty25 : TI := ⟨.struct #[⟨ "Lo", 3, 0, false, "", "", 0⟩, ⟨ "Hi", 3, 1, false, "", "", 8⟩], 2, 16, true, some (.agg [(.int .i64 0), (.int .i64 0)]), true⟩
noncomputable def ty26 : TI := ⟨.struct #[⟨ "Lo", 3, 0, false, "", "", 0⟩, ⟨ "Hi", 3, 1, false, "", "", 8⟩], 2, 16, true, some (.agg [(.int .i64 0), (.int .i64 0)]), true⟩
noncomputable def ty27 : TI := ⟨.slice 136, 1, 24, false, some .nils, false⟩
noncomputable def ty28 : TI := ⟨.struct #[⟨ "Amount", 3, 0, false, "", "", 0⟩, ⟨ "Slew", 3, 1, false, "", "", 8⟩, ⟨ "Aid", 26, 2, false, "", "", 16⟩, ⟨ "Yield", 26, 4, false, "", "", 32⟩, ⟨ "Bands", 27, 6, false, "", "", 48⟩], 7, 72, true, some (.agg [(.int .i64 0), (.int .i64 0), (.int .i64 0), (.int .i64 0), (.int .i64 0), (.int .i64 0), .nils]), false⟩
noncomputable def ty29 : TI := ⟨.struct #[⟨ "Amount", 3, 0, false, "", "", 0⟩, ⟨ "Slew", 3, 1, false, "", "", 8⟩, ⟨ "Aid", 26, 2, false, "", "", 16⟩, ⟨ "Yield", 26, 4, false, "", "", 32⟩, ⟨ "Bands", 27, 6, false, "", "", 48⟩], 7, 72, true, some (.agg [(.int .i64 0), (.int .i64 0), (.int .i64 0), (.int .i64 0), (.int .i64 0), (.int .i64 0), .nils]), false⟩
noncomputable def ty30 : TI := ⟨.func #[23] #[29] false, 1, 8, false, some .nilf, false⟩
noncomputable def ty31 : TI := ⟨.slice 52, 1, 24, false, some .nils, false⟩
noncomputable def ty32 : TI := ⟨.func #[23, 3, 3] #[31] false, 1, 8, false, some .nilf, false⟩
noncomputable def ty33 : TI := ⟨.slice 71, 1, 24, false, some .nils, false⟩
noncomputable def ty34 : TI := ⟨.slice 140, 1, 24, false, some .nils, false⟩
noncomputable def ty35 : TI := ⟨.slice 128, 1, 24, false, some .nils, false⟩
noncomputable def ty36 : TI := ⟨.slice 61, 1, 24, false, some .nils, false⟩
noncomputable def ty37 : TI := ⟨.slice 142, 1, 24, false, some .nils, false⟩
noncomputable def ty38 : TI := ⟨.struct #[⟨ "Vessels", 33, 0, false, "", "", 0⟩, ⟨ "Pipes", 34, 1, false, "", "", 24⟩, ⟨ "Pumps", 35, 2, false, "", "", 48⟩, ⟨ "Leaks", 36, 3, false, "", "", 72⟩, ⟨ "Getters", 37, 4, false, "", "", 96⟩], 5, 120, true, some (.agg [.nils, .nils, .nils, .nils, .nils]), false⟩
noncomputable def ty39 : TI := ⟨.struct #[⟨ "Vessels", 33, 0, false, "", "", 0⟩, ⟨ "Pipes", 34, 1, false, "", "", 24⟩, ⟨ "Pumps", 35, 2, false, "", "", 48⟩, ⟨ "Leaks", 36, 3, false, "", "", 72⟩, ⟨ "Getters", 37, 4, false, "", "", 96⟩], 5, 120, true, some (.agg [.nils, .nils, .nils, .nils, .nils]), false⟩
noncomputable def ty40 : TI := ⟨.func #[23] #[39] false, 1, 8, false, some .nilf, false⟩
noncomputable def ty41 : TI := ⟨.struct #[⟨ "Ticks", 3, 0, false, "", "", 0⟩, ⟨ "Heat", 3, 1, false, "", "", 8⟩, ⟨ "Shut", 22, 2, false, "", "", 16⟩, ⟨ "Flash", 4, 3, false, "", "", 40⟩], 4, 48, true, some (.agg [(.int .i64 0), (.int .i64 0), .nils, (.bool false)]), false⟩
noncomputable def ty42 : TI := ⟨.struct #[⟨ "Ticks", 3, 0, false, "", "", 0⟩, ⟨ "Heat", 3, 1, false, "", "", 8⟩, ⟨ "Shut", 22, 2, false, "", "", 16⟩, ⟨ "Flash", 4, 3, false, "", "", 40⟩], 4, 48, true, some (.agg [(.int .i64 0), (.int .i64 0), .nils, (.bool false)]), false⟩
noncomputable def ty43 : TI := ⟨.func #[23, 39, 3] #[42] false, 1, 8, false, some .nilf, false⟩
noncomputable def ty44 : TI := ⟨.func #[3] #[3] false, 1, 8, false, some .nilf, false⟩
noncomputable def ty45 : TI := ⟨.struct #[⟨ "Carbonate", 26, 0, false, "", "", 0⟩, ⟨ "Oxide", 26, 2, false, "", "", 16⟩, ⟨ "Barium", 26, 4, false, "", "", 32⟩, ⟨ "Lost", 26, 6, false, "", "", 48⟩, ⟨ "Gas", 26, 8, false, "", "", 64⟩, ⟨ "Wear", 26, 10, false, "", "", 80⟩, ⟨ "Heat", 3, 12, false, "", "", 96⟩], 13, 104, true, some (.agg [(.int .i64 0), (.int .i64 0), (.int .i64 0), (.int .i64 0), (.int .i64 0), (.int .i64 0), (.int .i64 0), (.int .i64 0), (.int .i64 0), (.int .i64 0), (.int .i64 0), (.int .i64 0), (.int .i64 0)]), true⟩
noncomputable def ty46 : TI := ⟨.struct #[⟨ "Carbonate", 26, 0, false, "", "", 0⟩, ⟨ "Oxide", 26, 2, false, "", "", 16⟩, ⟨ "Barium", 26, 4, false, "", "", 32⟩, ⟨ "Lost", 26, 6, false, "", "", 48⟩, ⟨ "Gas", 26, 8, false, "", "", 64⟩, ⟨ "Wear", 26, 10, false, "", "", 80⟩, ⟨ "Heat", 3, 12, false, "", "", 96⟩], 13, 104, true, some (.agg [(.int .i64 0), (.int .i64 0), (.int .i64 0), (.int .i64 0), (.int .i64 0), (.int .i64 0), (.int .i64 0), (.int .i64 0), (.int .i64 0), (.int .i64 0), (.int .i64 0), (.int .i64 0), (.int .i64 0)]), true⟩
noncomputable def ty47 : TI := ⟨.int .i64, 1, 8, false, some (.int .i64 0), false⟩
noncomputable def ty49 : TI := ⟨.func #[29] #[46, 47] false, 1, 8, false, some .nilf, false⟩
noncomputable def ty50 : TI := ⟨.slice 26, 1, 24, false, some .nils, false⟩
noncomputable def ty51 : TI := ⟨.struct #[⟨ "Ticks", 3, 0, false, "", "", 0⟩, ⟨ "Heat", 3, 1, false, "", "", 8⟩, ⟨ "Current", 3, 2, false, "", "", 16⟩], 3, 24, true, some (.agg [(.int .i64 0), (.int .i64 0), (.int .i64 0)]), true⟩
noncomputable def ty52 : TI := ⟨.struct #[⟨ "Ticks", 3, 0, false, "", "", 0⟩, ⟨ "Heat", 3, 1, false, "", "", 8⟩, ⟨ "Current", 3, 2, false, "", "", 16⟩], 3, 24, true, some (.agg [(.int .i64 0), (.int .i64 0), (.int .i64 0)]), true⟩
noncomputable def ty53 : TI := ⟨.func #[29, 46, 3, 3] #[46, 47] false, 1, 8, false, some .nilf, false⟩
noncomputable def ty54 : TI := ⟨.func #[3, 3] #[26] false, 1, 8, false, some .nilf, false⟩
noncomputable def ty55 : TI := ⟨.struct #[⟨ "Free", 50, 0, false, "", "", 0⟩, ⟨ "Bound", 50, 1, false, "", "", 24⟩, ⟨ "Room", 50, 2, false, "", "", 48⟩, ⟨ "Most", 3, 3, false, "", "", 72⟩, ⟨ "Flashed", 4, 4, false, "", "", 80⟩], 5, 88, true, some (.agg [.nils, .nils, .nils, (.int .i64 0), (.bool false)]), false⟩
noncomputable def ty56 : TI := ⟨.struct #[⟨ "Free", 50, 0, false, "", "", 0⟩, ⟨ "Bound", 50, 1, false, "", "", 24⟩, ⟨ "Room", 50, 2, false, "", "", 48⟩, ⟨ "Most", 3, 3, false, "", "", 72⟩, ⟨ "Flashed", 4, 4, false, "", "", 80⟩], 5, 88, true, some (.agg [.nils, .nils, .nils, (.int .i64 0), (.bool false)]), false⟩
noncomputable def ty58 : TI := ⟨.func #[39] #[56, 47] false, 1, 8, false, some .nilf, false⟩
noncomputable def ty59 : TI := ⟨.func #[39] #[39] false, 1, 8, false, some .nilf, false⟩
noncomputable def ty60 : TI := ⟨.struct #[⟨ "At", 3, 0, false, "", "", 0⟩, ⟨ "Gas", 26, 1, false, "", "", 8⟩], 3, 24, true, some (.agg [(.int .i64 0), (.int .i64 0), (.int .i64 0)]), true⟩
noncomputable def ty61 : TI := ⟨.struct #[⟨ "At", 3, 0, false, "", "", 0⟩, ⟨ "Gas", 26, 1, false, "", "", 8⟩], 3, 24, true, some (.agg [(.int .i64 0), (.int .i64 0), (.int .i64 0)]), true⟩
noncomputable def ty62 : TI := ⟨.func #[39, 56, 42] #[56, 47] false, 1, 8, false, some .nilf, false⟩
noncomputable def ty63 : TI := ⟨.func #[56, 56] #[4] false, 1, 8, false, some .nilf, false⟩
noncomputable def ty64 : TI := ⟨.func #[] #[4] false, 1, 8, false, some .nilf, false⟩
noncomputable def ty65 : TI := ⟨.func #[22] #[4] false, 1, 8, false, some .nilf, false⟩
noncomputable def ty66 : TI := ⟨.func #[3, 3] #[3] false, 1, 8, false, some .nilf, false⟩
noncomputable def ty67 : TI := ⟨.func #[] #[39] false, 1, 8, false, some .nilf, false⟩
noncomputable def ty68 : TI := ⟨.func #[3] #[26] false, 1, 8, false, some .nilf, false⟩
noncomputable def ty69 : TI := ⟨.slice 138, 1, 24, false, some .nils, false⟩
noncomputable def ty70 : TI := ⟨.struct #[⟨ "Volume", 3, 0, false, "", "", 0⟩, ⟨ "Free", 26, 1, false, "", "", 8⟩, ⟨ "Bound", 26, 3, false, "", "", 24⟩, ⟨ "Bands", 69, 5, false, "", "", 40⟩], 6, 64, true, some (.agg [(.int .i64 0), (.int .i64 0), (.int .i64 0), (.int .i64 0), (.int .i64 0), .nils]), false⟩
noncomputable def ty71 : TI := ⟨.struct #[⟨ "Volume", 3, 0, false, "", "", 0⟩, ⟨ "Free", 26, 1, false, "", "", 8⟩, ⟨ "Bound", 26, 3, false, "", "", 24⟩, ⟨ "Bands", 69, 5, false, "", "", 40⟩], 6, 64, true, some (.agg [(.int .i64 0), (.int .i64 0), (.int .i64 0), (.int .i64 0), (.int .i64 0), .nils]), false⟩
noncomputable def ty72 : TI := ⟨.func #[39, 73] #[56, 47] false, 1, 8, false, some .nilf, false⟩
noncomputable def ty73 : TI := ⟨.slice 42, 1, 24, false, some .nils, false⟩
noncomputable def ty74 : TI := ⟨.func #[3, 3] #[4] false, 1, 8, false, some .nilf, false⟩
noncomputable def ty75 : TI := ⟨.slice 84, 1, 24, false, some .nils, false⟩
noncomputable def ty76 : TI := ⟨.struct #[⟨ "Suspects", 3, 0, false, "", "", 0⟩, ⟨ "Trials", 75, 1, false, "", "", 8⟩], 2, 32, true, some (.agg [(.int .i64 0), .nils]), false⟩
noncomputable def ty77 : TI := ⟨.struct #[⟨ "Suspects", 3, 0, false, "", "", 0⟩, ⟨ "Trials", 75, 1, false, "", "", 8⟩], 2, 32, true, some (.agg [(.int .i64 0), .nils]), false⟩
noncomputable def ty78 : TI := ⟨.func #[23, 3, 3] #[77] false, 1, 8, false, some .nilf, false⟩
noncomputable def ty80 : TI := ⟨.func #[77, 22] #[3, 3, 47] false, 1, 8, false, some .nilf, false⟩
noncomputable def ty81 : TI := ⟨.func #[3] #[22] false, 1, 8, false, some .nilf, false⟩
noncomputable def ty82 : TI := ⟨.func #[77, 22] #[22] false, 1, 8, false, some .nilf, false⟩
noncomputable def ty83 : TI := ⟨.struct #[⟨ "Of", 22, 0, false, "", "", 0⟩, ⟨ "Cost", 3, 1, false, "", "", 24⟩], 2, 32, true, some (.agg [.nils, (.int .i64 0)]), false⟩
noncomputable def ty84 : TI := ⟨.struct #[⟨ "Of", 22, 0, false, "", "", 0⟩, ⟨ "Cost", 3, 1, false, "", "", 24⟩], 2, 32, true, some (.agg [.nils, (.int .i64 0)]), false⟩
noncomputable def ty85 : TI := ⟨.func #[3] #[4] false, 1, 8, false, some .nilf, false⟩
noncomputable def ty86 : TI := ⟨.pointer 84, 1, 8, false, some .nilp, false⟩
noncomputable def ty87 : TI := ⟨.func #[23, 39] #[73] false, 1, 8, false, some .nilf, false⟩
noncomputable def ty89 : TI := ⟨.func #[56] #[3, 3] false, 1, 8, false, some .nilf, false⟩
noncomputable def ty90 : TI := ⟨.func #[39] #[4] false, 1, 8, false, some .nilf, false⟩
noncomputable def ty91 : TI := ⟨.slice 39, 1, 24, false, some .nils, false⟩
noncomputable def ty92 : TI := ⟨.func #[39] #[47] false, 1, 8, false, some .nilf, false⟩
noncomputable def ty93 : TI := ⟨.func #[39, 42] #[47] false, 1, 8, false, some .nilf, false⟩
noncomputable def ty94 : TI := ⟨.func #[39, 42, 22] #[4] false, 1, 8, false, some .nilf, false⟩
noncomputable def ty95 : TI := ⟨.func #[77] #[4] false, 1, 8, false, some .nilf, false⟩
noncomputable def ty96 : TI := ⟨.slice 77, 1, 24, false, some .nils, false⟩
noncomputable def ty97 : TI := ⟨.slice 22, 1, 24, false, some .nils, false⟩
noncomputable def ty98 : TI := ⟨.slice 105, 1, 24, false, some .nils, false⟩
noncomputable def ty100 : TI := ⟨.func #[77, 3] #[98, 3, 47] false, 1, 8, false, some .nilf, false⟩
noncomputable def ty101 : TI := ⟨.func #[77] #[47] false, 1, 8, false, some .nilf, false⟩
noncomputable def ty102 : TI := ⟨.func #[98, 98] #[4] false, 1, 8, false, some .nilf, false⟩
noncomputable def ty103 : TI := ⟨.func #[77, 22, 3, 22] #[4] false, 1, 8, false, some .nilf, false⟩
noncomputable def ty104 : TI := ⟨.struct #[⟨ "Trial", 3, 0, false, "", "", 0⟩, ⟨ "In", 4, 1, false, "", "", 8⟩], 2, 16, true, some (.agg [(.int .i64 0), (.bool false)]), true⟩
noncomputable def ty105 : TI := ⟨.struct #[⟨ "Trial", 3, 0, false, "", "", 0⟩, ⟨ "In", 4, 1, false, "", "", 8⟩], 2, 16, true, some (.agg [(.int .i64 0), (.bool false)]), true⟩
noncomputable def ty106 : TI := ⟨.func #[22, 3] #[4] false, 1, 8, false, some .nilf, false⟩
noncomputable def ty107 : TI := ⟨.func #[22, 22] #[4] false, 1, 8, false, some .nilf, false⟩
noncomputable def ty108 : TI := ⟨.func #[73] #[4] false, 1, 8, false, some .nilf, false⟩
noncomputable def ty109 : TI := ⟨.slice 73, 1, 24, false, some .nils, false⟩
noncomputable def ty111 : TI := ⟨.func #[39, 73, 3] #[3, 47] false, 1, 8, false, some .nilf, false⟩
noncomputable def ty112 : TI := ⟨.func #[39, 73, 3, 3] #[3, 47] false, 1, 8, false, some .nilf, false⟩
noncomputable def ty113 : TI := ⟨.func #[39, 73, 3, 3, 22] #[4] false, 1, 8, false, some .nilf, false⟩
noncomputable def ty114 : TI := ⟨.func #[56] #[4] false, 1, 8, false, some .nilf, false⟩
noncomputable def ty115 : TI := ⟨.func #[23, 39] #[56] false, 1, 8, false, some .nilf, false⟩
noncomputable def ty116 : TI := ⟨.slice 56, 1, 24, false, some .nils, false⟩
noncomputable def ty117 : TI := ⟨.func #[39, 56, 42, 22] #[4] false, 1, 8, false, some .nilf, false⟩
noncomputable def ty118 : TI := ⟨.func #[39, 56] #[47] false, 1, 8, false, some .nilf, false⟩
noncomputable def ty120 : TI := ⟨.func #[39, 56, 3] #[26, 47] false, 1, 8, false, some .nilf, false⟩
noncomputable def ty121 : TI := ⟨.func #[39, 56, 3, 3] #[3, 47] false, 1, 8, false, some .nilf, false⟩
noncomputable def ty122 : TI := ⟨.func #[39, 56, 3, 3, 22] #[4] false, 1, 8, false, some .nilf, false⟩
noncomputable def ty123 : TI := ⟨.func #[23, 39] #[39] false, 1, 8, false, some .nilf, false⟩
noncomputable def ty124 : TI := ⟨.func #[23, 56] #[56] false, 1, 8, false, some .nilf, false⟩
noncomputable def ty125 : TI := ⟨.func #[26, 26] #[4] false, 1, 8, false, some .nilf, false⟩
noncomputable def ty126 : TI := ⟨.func #[22, 3, 3] #[4] false, 1, 8, false, some .nilf, false⟩
noncomputable def ty127 : TI := ⟨.struct #[⟨ "At", 3, 0, false, "", "", 0⟩, ⟨ "Part", 26, 1, false, "", "", 8⟩], 3, 24, true, some (.agg [(.int .i64 0), (.int .i64 0), (.int .i64 0)]), true⟩
noncomputable def ty128 : TI := ⟨.struct #[⟨ "At", 3, 0, false, "", "", 0⟩, ⟨ "Part", 26, 1, false, "", "", 8⟩], 3, 24, true, some (.agg [(.int .i64 0), (.int .i64 0), (.int .i64 0)]), true⟩
noncomputable def ty129 : TI := ⟨.func #[] #[77] false, 1, 8, false, some .nilf, false⟩
noncomputable def ty130 : TI := ⟨.int .u64, 1, 8, false, some (.int .u64 0), false⟩
noncomputable def ty131 : TI := ⟨.struct #[⟨ "word", 130, 0, false, "", "thermion/thermionkit", 0⟩], 1, 8, true, some (.agg [(.int .u64 0)]), true⟩
noncomputable def ty132 : TI := ⟨.struct #[⟨ "word", 130, 0, false, "", "thermion/thermionkit", 0⟩], 1, 8, true, some (.agg [(.int .u64 0)]), true⟩
noncomputable def ty133 : TI := ⟨.func #[] #[130] false, 1, 8, false, some .nilf, false⟩
noncomputable def ty134 : TI := ⟨.func #[23, 3] #[26] false, 1, 8, false, some .nilf, false⟩
noncomputable def ty135 : TI := ⟨.struct #[⟨ "From", 3, 0, false, "", "", 0⟩, ⟨ "Convert", 26, 1, false, "", "", 8⟩, ⟨ "Reduce", 26, 3, false, "", "", 24⟩, ⟨ "Evaporate", 26, 5, false, "", "", 40⟩, ⟨ "Sinter", 26, 7, false, "", "", 56⟩], 9, 72, true, some (.agg [(.int .i64 0), (.int .i64 0), (.int .i64 0), (.int .i64 0), (.int .i64 0), (.int .i64 0), (.int .i64 0), (.int .i64 0), (.int .i64 0)]), true⟩
noncomputable def ty136 : TI := ⟨.struct #[⟨ "From", 3, 0, false, "", "", 0⟩, ⟨ "Convert", 26, 1, false, "", "", 8⟩, ⟨ "Reduce", 26, 3, false, "", "", 24⟩, ⟨ "Evaporate", 26, 5, false, "", "", 40⟩, ⟨ "Sinter", 26, 7, false, "", "", 56⟩], 9, 72, true, some (.agg [(.int .i64 0), (.int .i64 0), (.int .i64 0), (.int .i64 0), (.int .i64 0), (.int .i64 0), (.int .i64 0), (.int .i64 0), (.int .i64 0)]), true⟩
noncomputable def ty137 : TI := ⟨.struct #[⟨ "From", 3, 0, false, "", "", 0⟩, ⟨ "Rate", 26, 1, false, "", "", 8⟩], 3, 24, true, some (.agg [(.int .i64 0), (.int .i64 0), (.int .i64 0)]), true⟩
noncomputable def ty138 : TI := ⟨.struct #[⟨ "From", 3, 0, false, "", "", 0⟩, ⟨ "Rate", 26, 1, false, "", "", 8⟩], 3, 24, true, some (.agg [(.int .i64 0), (.int .i64 0), (.int .i64 0)]), true⟩
noncomputable def ty139 : TI := ⟨.struct #[⟨ "A", 3, 0, false, "", "", 0⟩, ⟨ "B", 3, 1, false, "", "", 8⟩, ⟨ "Out", 26, 2, false, "", "", 16⟩, ⟨ "Back", 26, 4, false, "", "", 32⟩], 6, 48, true, some (.agg [(.int .i64 0), (.int .i64 0), (.int .i64 0), (.int .i64 0), (.int .i64 0), (.int .i64 0)]), true⟩
noncomputable def ty140 : TI := ⟨.struct #[⟨ "A", 3, 0, false, "", "", 0⟩, ⟨ "B", 3, 1, false, "", "", 8⟩, ⟨ "Out", 26, 2, false, "", "", 16⟩, ⟨ "Back", 26, 4, false, "", "", 32⟩], 6, 48, true, some (.agg [(.int .i64 0), (.int .i64 0), (.int .i64 0), (.int .i64 0), (.int .i64 0), (.int .i64 0)]), true⟩
noncomputable def ty141 : TI := ⟨.struct #[⟨ "At", 3, 0, false, "", "", 0⟩, ⟨ "Part", 26, 1, false, "", "", 8⟩, ⟨ "Room", 26, 3, false, "", "", 24⟩], 5, 40, true, some (.agg [(.int .i64 0), (.int .i64 0), (.int .i64 0), (.int .i64 0), (.int .i64 0)]), true⟩
noncomputable def ty142 : TI := ⟨.struct #[⟨ "At", 3, 0, false, "", "", 0⟩, ⟨ "Part", 26, 1, false, "", "", 8⟩, ⟨ "Room", 26, 3, false, "", "", 24⟩], 5, 40, true, some (.agg [(.int .i64 0), (.int .i64 0), (.int .i64 0), (.int .i64 0), (.int .i64 0)]), true⟩
noncomputable def ty143 : TI := ⟨.func #[29] #[47] false, 1, 8, false, some .nilf, false⟩
noncomputable def ty144 : TI := ⟨.func #[29] #[46] false, 1, 8, false, some .nilf, false⟩
noncomputable def ty145 : TI := ⟨.func #[29, 46] #[47] false, 1, 8, false, some .nilf, false⟩
noncomputable def ty146 : TI := ⟨.func #[29, 46, 3, 3] #[46] false, 1, 8, false, some .nilf, false⟩
noncomputable def ty147 : TI := ⟨.func #[39] #[56] false, 1, 8, false, some .nilf, false⟩
noncomputable def ty148 : TI := ⟨.pointer 151, 1, 8, false, some .nilp, false⟩
noncomputable def ty149 : TI := ⟨.func #[56] #[56] false, 1, 8, false, some .nilf, false⟩
noncomputable def ty150 : TI := ⟨.struct #[⟨ "v", 39, 0, false, "", "thermion/pump", 0⟩, ⟨ "g", 56, 5, false, "", "thermion/pump", 120⟩], 10, 208, true, some (.agg [.nils, .nils, .nils, .nils, .nils, .nils, .nils, .nils, (.int .i64 0), (.bool false)]), false⟩
noncomputable def ty151 : TI := ⟨.struct #[⟨ "v", 39, 0, false, "", "thermion/pump", 0⟩, ⟨ "g", 56, 5, false, "", "thermion/pump", 120⟩], 10, 208, true, some (.agg [.nils, .nils, .nils, .nils, .nils, .nils, .nils, .nils, (.int .i64 0), (.bool false)]), false⟩
noncomputable def ty152 : TI := ⟨.func #[42] #[] false, 1, 8, false, some .nilf, false⟩
noncomputable def ty153 : TI := ⟨.func #[39, 73] #[47] false, 1, 8, false, some .nilf, false⟩
noncomputable def ty154 : TI := ⟨.func #[212] #[] false, 1, 8, false, some .nilf, false⟩
noncomputable def ty155 : TI := ⟨.func #[212] #[] false, 1, 8, false, some .nilf, false⟩
noncomputable def ty156 : TI := ⟨.func #[39, 73] #[155] false, 1, 8, false, some .nilf, false⟩
noncomputable def ty157 : TI := ⟨.func #[50, 50] #[4] false, 1, 8, false, some .nilf, false⟩
noncomputable def ty158 : TI := ⟨.int .u64, 1, 8, false, some (.int .u64 0), false⟩
noncomputable def ty160 : TI := ⟨.func #[3, 22] #[158, 47] false, 1, 8, false, some .nilf, false⟩
noncomputable def ty161 : TI := ⟨.struct #[⟨ "cost", 3, 0, false, "", "thermion/pump", 0⟩, ⟨ "trial", 3, 1, false, "", "thermion/pump", 8⟩], 2, 16, true, some (.agg [(.int .i64 0), (.int .i64 0)]), true⟩
noncomputable def ty162 : TI := ⟨.struct #[⟨ "cost", 3, 0, false, "", "thermion/pump", 0⟩, ⟨ "trial", 3, 1, false, "", "thermion/pump", 8⟩], 2, 16, true, some (.agg [(.int .i64 0), (.int .i64 0)]), true⟩
noncomputable def ty163 : TI := ⟨.pointer 193, 1, 8, false, some .nilp, false⟩
noncomputable def ty164 : TI := ⟨.func #[77] #[163] false, 1, 8, false, some .nilf, false⟩
noncomputable def ty165 : TI := ⟨.func #[158] #[162] false, 1, 8, false, some .nilf, false⟩
noncomputable def ty166 : TI := ⟨.func #[3, 3, 3] #[4] false, 1, 8, false, some .nilf, false⟩
noncomputable def ty167 : TI := ⟨.func #[26, 3] #[47] false, 1, 8, false, some .nilf, false⟩
noncomputable def ty168 : TI := ⟨.func #[3, 26, 3] #[47] false, 1, 8, false, some .nilf, false⟩
noncomputable def ty169 : TI := ⟨.func #[140] #[47] false, 1, 8, false, some .nilf, false⟩
noncomputable def ty170 : TI := ⟨.func #[128] #[47] false, 1, 8, false, some .nilf, false⟩
noncomputable def ty171 : TI := ⟨.func #[61] #[47] false, 1, 8, false, some .nilf, false⟩
noncomputable def ty172 : TI := ⟨.func #[142] #[47] false, 1, 8, false, some .nilf, false⟩
noncomputable def ty173 : TI := ⟨.func #[214] #[47] true, 1, 8, false, some .nilf, false⟩
noncomputable def ty174 : TI := ⟨.func #[] #[47] false, 1, 8, false, some .nilf, false⟩
noncomputable def ty175 : TI := ⟨.func #[33, 176] #[174] false, 1, 8, false, some .nilf, false⟩
noncomputable def ty176 : TI := ⟨.func #[71] #[47] false, 1, 8, false, some .nilf, false⟩
noncomputable def ty177 : TI := ⟨.func #[34, 169] #[174] false, 1, 8, false, some .nilf, false⟩
noncomputable def ty178 : TI := ⟨.func #[35, 170] #[174] false, 1, 8, false, some .nilf, false⟩
noncomputable def ty179 : TI := ⟨.func #[36, 171] #[174] false, 1, 8, false, some .nilf, false⟩
noncomputable def ty180 : TI := ⟨.func #[37, 172] #[174] false, 1, 8, false, some .nilf, false⟩
noncomputable def ty181 : TI := ⟨.map 3 26, 1, 8, false, some .nilm, false⟩
noncomputable def ty182 : TI := ⟨.func #[39, 22] #[181] false, 1, 8, false, some .nilf, false⟩
noncomputable def ty183 : TI := ⟨.func #[39, 3, 22] #[26] false, 1, 8, false, some .nilf, false⟩
noncomputable def ty184 : TI := ⟨.func #[77, 22] #[47] false, 1, 8, false, some .nilf, false⟩
noncomputable def ty185 : TI := ⟨.struct #[⟨ "cost", 22, 0, false, "", "thermion/thermionref06", 0⟩, ⟨ "trial", 22, 1, false, "", "thermion/thermionref06", 24⟩], 2, 48, true, some (.agg [.nils, .nils]), false⟩
noncomputable def ty186 : TI := ⟨.struct #[⟨ "cost", 22, 0, false, "", "thermion/thermionref06", 0⟩, ⟨ "trial", 22, 1, false, "", "thermion/thermionref06", 24⟩], 2, 48, true, some (.agg [.nils, .nils]), false⟩
noncomputable def ty187 : TI := ⟨.func #[77] #[186] false, 1, 8, false, some .nilf, false⟩
noncomputable def ty188 : TI := ⟨.func #[22] #[3] false, 1, 8, false, some .nilf, false⟩
noncomputable def ty189 : TI := ⟨.func #[158] #[3] false, 1, 8, false, some .nilf, false⟩
noncomputable def ty190 : TI := ⟨.slice 158, 1, 24, false, some .nils, false⟩
noncomputable def ty191 : TI := ⟨.map 158 162, 1, 8, false, some .nilm, false⟩
noncomputable def ty192 : TI := ⟨.struct #[⟨ "h", 77, 0, false, "", "thermion/pump", 0⟩, ⟨ "of", 190, 2, false, "", "thermion/pump", 32⟩, ⟨ "known", 191, 3, false, "", "thermion/pump", 56⟩], 4, 64, true, some (.agg [(.int .i64 0), .nils, .nils, .nilm]), false⟩
noncomputable def ty193 : TI := ⟨.struct #[⟨ "h", 77, 0, false, "", "thermion/pump", 0⟩, ⟨ "of", 190, 2, false, "", "thermion/pump", 32⟩, ⟨ "known", 191, 3, false, "", "thermion/pump", 56⟩], 4, 64, true, some (.agg [(.int .i64 0), .nils, .nils, .nilm]), false⟩
noncomputable def ty194 : TI := ⟨.func #[39, 56, 42] #[56] false, 1, 8, false, some .nilf, false⟩
noncomputable def ty195 : TI := ⟨.func #[39, 56, 3] #[26] false, 1, 8, false, some .nilf, false⟩
noncomputable def ty196 : TI := ⟨.func #[226] #[50] true, 1, 8, false, some .nilf, false⟩
noncomputable def ty197 : TI := ⟨.pointer 128, 1, 8, false, some .nilp, false⟩
noncomputable def ty198 : TI := ⟨.pointer 71, 1, 8, false, some .nilp, false⟩
noncomputable def ty199 : TI := ⟨.func #[23, 26] #[26] false, 1, 8, false, some .nilf, false⟩
noncomputable def ty200 : TI := ⟨.func #[3, 50] #[47] true, 1, 8, false, some .nilf, false⟩
noncomputable def ty201 : TI := ⟨.pointer 203, 1, 8, false, some .nilp, false⟩
noncomputable def ty202 : TI := ⟨.struct #[⟨ "was", 46, 0, false, "", "thermion/cathode", 0⟩, ⟨ "now", 46, 13, false, "", "thermion/cathode", 104⟩, ⟨ "b", 136, 26, false, "", "thermion/cathode", 208⟩], 35, 280, true, some (.agg [(.int .i64 0), (.int .i64 0), (.int .i64 0), (.int .i64 0), (.int .i64 0), (.int .i64 0), (.int .i64 0), (.int .i64 0), (.int .i64 0), (.int .i64 0), (.int .i64 0), (.int .i64 0), (.int .i64 0), (.int .i64 0), (.int .i64 0), (.int .i64 0), (.int .i64 0), (.int .i64 0), (.int .i64 0), (.int .i64 0), (.int .i64 0), (.int .i64 0), (.int .i64 0), (.int .i64 0), (.int .i64 0), (.int .i64 0), (.int .i64 0), (.int .i64 0), (.int .i64 0), (.int .i64 0), (.int .i64 0), (.int .i64 0), (.int .i64 0), (.int .i64 0), (.int .i64 0)]), true⟩
noncomputable def ty203 : TI := ⟨.struct #[⟨ "was", 46, 0, false, "", "thermion/cathode", 0⟩, ⟨ "now", 46, 13, false, "", "thermion/cathode", 104⟩, ⟨ "b", 136, 26, false, "", "thermion/cathode", 208⟩], 35, 280, true, some (.agg [(.int .i64 0), (.int .i64 0), (.int .i64 0), (.int .i64 0), (.int .i64 0), (.int .i64 0), (.int .i64 0), (.int .i64 0), (.int .i64 0), (.int .i64 0), (.int .i64 0), (.int .i64 0), (.int .i64 0), (.int .i64 0), (.int .i64 0), (.int .i64 0), (.int .i64 0), (.int .i64 0), (.int .i64 0), (.int .i64 0), (.int .i64 0), (.int .i64 0), (.int .i64 0), (.int .i64 0), (.int .i64 0), (.int .i64 0), (.int .i64 0), (.int .i64 0), (.int .i64 0), (.int .i64 0), (.int .i64 0), (.int .i64 0), (.int .i64 0), (.int .i64 0), (.int .i64 0)]), true⟩
noncomputable def ty204 : TI := ⟨.func #[29, 3, 3] #[3] false, 1, 8, false, some .nilf, false⟩
noncomputable def ty205 : TI := ⟨.func #[29, 3, 3] #[136] false, 1, 8, false, some .nilf, false⟩
noncomputable def ty206 : TI := ⟨.slice 1, 1, 24, false, some .nils, false⟩
noncomputable def ty207 : TI := ⟨.pointer 26, 1, 8, false, some .nilp, false⟩
noncomputable def ty208 : TI := ⟨.slice 207, 1, 24, false, some .nils, false⟩
noncomputable def ty209 : TI := ⟨.func #[50] #[50] false, 1, 8, false, some .nilf, false⟩
noncomputable def ty210 : TI := ⟨.func #[148, 42] #[] false, 1, 8, false, some .nilf, false⟩
noncomputable def ty211 : TI := ⟨.array 5 210, 5, 40, true, some (.agg [.nilf, .nilf, .nilf, .nilf, .nilf]), false⟩
noncomputable def ty212 : TI := ⟨.func #[148] #[4] false, 1, 8, false, some .nilf, false⟩
noncomputable def ty214 : TI := ⟨.slice 174, 1, 24, false, some .nils, false⟩
noncomputable def ty215 : TI := ⟨.array 2 26, 4, 32, true, some (.agg [(.int .i64 0), (.int .i64 0), (.int .i64 0), (.int .i64 0)]), true⟩
noncomputable def ty216 : TI := ⟨.func #[26, 26] #[26] false, 1, 8, false, some .nilf, false⟩
noncomputable def ty217 : TI := ⟨.func #[140, 3] #[47] false, 1, 8, false, some .nilf, false⟩
noncomputable def ty218 : TI := ⟨.func #[3, 3, 26, 3] #[47] false, 1, 8, false, some .nilf, false⟩
noncomputable def ty219 : TI := ⟨.func #[220] #[3] false, 1, 8, false, some .nilf, false⟩
noncomputable def ty220 : TI := ⟨.int .u32, 1, 4, false, some (.int .u32 0), false⟩
noncomputable def ty221 : TI := ⟨.func #[130] #[3] false, 1, 8, false, some .nilf, false⟩
noncomputable def ty222 : TI := ⟨.func #[39, 56, 3] #[] false, 1, 8, false, some .nilf, false⟩
noncomputable def ty223 : TI := ⟨.func #[39, 50, 22] #[50] false, 1, 8, false, some .nilf, false⟩
noncomputable def ty224 : TI := ⟨.func #[39, 56] #[] false, 1, 8, false, some .nilf, false⟩
noncomputable def ty225 : TI := ⟨.func #[50, 3] #[] false, 1, 8, false, some .nilf, false⟩
noncomputable def ty226 : TI := ⟨.slice 50, 1, 24, false, some .nils, false⟩
noncomputable def ty227 : TI := ⟨.func #[50, 3] #[50] false, 1, 8, false, some .nilf, false⟩
noncomputable def ty228 : TI := ⟨.func #[26] #[3] false, 1, 8, false, some .nilf, false⟩
noncomputable def ty229 : TI := ⟨.func #[3, 85] #[3] false, 1, 8, false, some .nilf, false⟩
noncomputable def ty230 : TI := ⟨.func #[3, 3, 26] #[] false, 1, 8, false, some .nilf, false⟩
noncomputable def ty231 : TI := ⟨.array 2 50, 2, 48, true, some (.agg [.nils, .nils]), false⟩
noncomputable def ty232 : TI := ⟨.func #[22, 3] #[3] false, 1, 8, false, some .nilf, false⟩
noncomputable def ty233 : TI := ⟨.func #[71, 3] #[26] false, 1, 8, false, some .nilf, false⟩
noncomputable def ty234 : TI := ⟨.func #[] #[9] false, 1, 8, false, some .nilf, false⟩
noncomputable def ty237 : TI := ⟨.array 0 16, 0, 0, true, some (.agg []), false⟩
noncomputable def ty240 : TI := ⟨.func #[] #[3] false, 1, 8, false, some .nilf, false⟩
noncomputable def ty241 : TI := ⟨.int .u8, 1, 1, false, some (.int .u8 0), false⟩
noncomputable def ty242 : TI := ⟨.int .u8, 1, 1, false, some (.int .u8 0), false⟩
noncomputable def ty243 : TI := ⟨.func #[249, 249] #[4] false, 1, 8, false, some .nilf, false⟩
noncomputable def ty244 : TI := ⟨.pointer 5, 1, 8, false, some .nilp, false⟩
noncomputable def ty245 : TI := ⟨.int .i32, 1, 4, false, some (.int .i32 0), false⟩
noncomputable def ty246 : TI := ⟨.int .i32, 1, 4, false, some (.int .i32 0), false⟩
noncomputable def ty247 : TI := ⟨.struct #[⟨ "Size_", 12, 0, false, "", "", 0⟩, ⟨ "PtrBytes", 12, 1, false, "", "", 8⟩, ⟨ "Hash", 220, 2, false, "", "", 16⟩, ⟨ "TFlag", 241, 3, false, "", "", 20⟩, ⟨ "Align_", 5, 4, false, "", "", 21⟩, ⟨ "FieldAlign_", 5, 5, false, "", "", 22⟩, ⟨ "Kind_", 242, 6, false, "", "", 23⟩, ⟨ "Equal", 243, 7, false, "", "", 24⟩, ⟨ "GCData", 244, 8, false, "", "", 32⟩, ⟨ "Str", 245, 9, false, "", "", 40⟩, ⟨ "PtrToThis", 246, 10, false, "", "", 44⟩], 11, 48, true, some (.agg [(.int .u64 0), (.int .u64 0), (.int .u32 0), (.int .u8 0), (.int .u8 0), (.int .u8 0), (.int .u8 0), .nilf, .nilp, (.int .i32 0), (.int .i32 0)]), false⟩
noncomputable def ty248 : TI := ⟨.struct #[⟨ "Size_", 12, 0, false, "", "", 0⟩, ⟨ "PtrBytes", 12, 1, false, "", "", 8⟩, ⟨ "Hash", 220, 2, false, "", "", 16⟩, ⟨ "TFlag", 241, 3, false, "", "", 20⟩, ⟨ "Align_", 5, 4, false, "", "", 21⟩, ⟨ "FieldAlign_", 5, 5, false, "", "", 22⟩, ⟨ "Kind_", 242, 6, false, "", "", 23⟩, ⟨ "Equal", 243, 7, false, "", "", 24⟩, ⟨ "GCData", 244, 8, false, "", "", 32⟩, ⟨ "Str", 245, 9, false, "", "", 40⟩, ⟨ "PtrToThis", 246, 10, false, "", "", 44⟩], 11, 48, true, some (.agg [(.int .u64 0), (.int .u64 0), (.int .u32 0), (.int .u8 0), (.int .u8 0), (.int .u8 0), (.int .u8 0), .nilf, .nilp, (.int .i32 0), (.int .i32 0)]), false⟩
noncomputable def tyT : NT TI := (.node 128 ty128 (.node 65 ty65 (.node 34 ty34 (.node 19 ty19 (.node 10 ty10 (.node 4 ty4 (.node 2 ty2 (.node 1 ty1 .leaf .leaf) (.node 3 ty3 .leaf .leaf)) (.node 6 ty6 (.node 5 ty5 .leaf .leaf) (.node 9 ty9 .leaf .leaf))) (.node 16 ty16 (.node 12 ty12 (.node 11 ty11 .leaf .leaf) (.node 15 ty15 .leaf .leaf)) (.node 18 ty18 (.node 17 ty17 .leaf .leaf) .leaf))) (.node 27 ty27 (.node 24 ty24 (.node 22 ty22 (.node 21 ty21 .leaf .leaf) (.node 23 ty23 .leaf .leaf)) (.node 26 ty26 (.node 25 ty25 .leaf .leaf) .leaf)) (.node 31 ty31 (.node 29 ty29 (.node 28 ty28 .leaf .leaf) (.node 30 ty30 .leaf .leaf)) (.node 33 ty33 (.node 32 ty32 .leaf .leaf) .leaf)))) (.node 50 ty50 (.node 42 ty42 (.node 38 ty38 (.node 36 ty36 (.node 35 ty35 .leaf .leaf) (.node 37 ty37 .leaf .leaf)) (.node 40 ty40 (.node 39 ty39 .leaf .leaf) (.node 41 ty41 .leaf .leaf))) (.node 46 ty46 (.node 44 ty44 (.node 43 ty43 .leaf .leaf) (.node 45 ty45 .leaf .leaf)) (.node 49 ty49 (.node 47 ty47 .leaf .leaf) .leaf))) (.node 58 ty58 (.node 54 ty54 (.node 52 ty52 (.node 51 ty51 .leaf .leaf) (.node 53 ty53 .leaf .leaf)) (.node 56 ty56 (.node 55 ty55 .leaf .leaf) .leaf)) (.node 62 ty62 (.node 60 ty60 (.node 59 ty59 .leaf .leaf) (.node 61 ty61 .leaf .leaf)) (.node 64 ty64 (.node 63 ty63 .leaf .leaf) .leaf))))) (.node 96 ty96 (.node 81 ty81 (.node 73 ty73 (.node 69 ty69 (.node 67 ty67 (.node 66 ty66 .leaf .leaf) (.node 68 ty68 .leaf .leaf)) (.node 71 ty71 (.node 70 ty70 .leaf .leaf) (.node 72 ty72 .leaf .leaf))) (.node 77 ty77 (.node 75 ty75 (.node 74 ty74 .leaf .leaf) (.node 76 ty76 .leaf .leaf)) (.node 80 ty80 (.node 78 ty78 .leaf .leaf) .leaf))) (.node 89 ty89 (.node 85 ty85 (.node 83 ty83 (.node 82 ty82 .leaf .leaf) (.node 84 ty84 .leaf .leaf)) (.node 87 ty87 (.node 86 ty86 .leaf .leaf) .leaf)) (.node 93 ty93 (.node 91 ty91 (.node 90 ty90 .leaf .leaf) (.node 92 ty92 .leaf .leaf)) (.node 95 ty95 (.node 94 ty94 .leaf .leaf) .leaf)))) (.node 113 ty113 (.node 105 ty105 (.node 101 ty101 (.node 98 ty98 (.node 97 ty97 .leaf .leaf) (.node 100 ty100 .leaf .leaf)) (.node 103 ty103 (.node 102 ty102 .leaf .leaf) (.node 104 ty104 .leaf .leaf))) (.node 109 ty109 (.node 107 ty107 (.node 106 ty106 .leaf .leaf) (.node 108 ty108 .leaf .leaf)) (.node 112 ty112 (.node 111 ty111 .leaf .leaf) .leaf))) (.node 121 ty121 (.node 117 ty117 (.node 115 ty115 (.node 114 ty114 .leaf .leaf) (.node 116 ty116 .leaf .leaf)) (.node 120 ty120 (.node 118 ty118 .leaf .leaf) .leaf)) (.node 125 ty125 (.node 123 ty123 (.node 122 ty122 .leaf .leaf) (.node 124 ty124 .leaf .leaf)) (.node 127 ty127 (.node 126 ty126 .leaf .leaf) .leaf)))))) (.node 187 ty187 (.node 157 ty157 (.node 143 ty143 (.node 136 ty136 (.node 132 ty132 (.node 130 ty130 (.node 129 ty129 .leaf .leaf) (.node 131 ty131 .leaf .leaf)) (.node 134 ty134 (.node 133 ty133 .leaf .leaf) (.node 135 ty135 .leaf .leaf))) (.node 140 ty140 (.node 138 ty138 (.node 137 ty137 .leaf .leaf) (.node 139 ty139 .leaf .leaf)) (.node 142 ty142 (.node 141 ty141 .leaf .leaf) .leaf))) (.node 150 ty150 (.node 147 ty147 (.node 145 ty145 (.node 144 ty144 .leaf .leaf) (.node 146 ty146 .leaf .leaf)) (.node 149 ty149 (.node 148 ty148 .leaf .leaf) .leaf)) (.node 154 ty154 (.node 152 ty152 (.node 151 ty151 .leaf .leaf) (.node 153 ty153 .leaf .leaf)) (.node 156 ty156 (.node 155 ty155 .leaf .leaf) .leaf)))) (.node 173 ty173 (.node 166 ty166 (.node 162 ty162 (.node 160 ty160 (.node 158 ty158 .leaf .leaf) (.node 161 ty161 .leaf .leaf)) (.node 164 ty164 (.node 163 ty163 .leaf .leaf) (.node 165 ty165 .leaf .leaf))) (.node 170 ty170 (.node 168 ty168 (.node 167 ty167 .leaf .leaf) (.node 169 ty169 .leaf .leaf)) (.node 172 ty172 (.node 171 ty171 .leaf .leaf) .leaf))) (.node 180 ty180 (.node 177 ty177 (.node 175 ty175 (.node 174 ty174 .leaf .leaf) (.node 176 ty176 .leaf .leaf)) (.node 179 ty179 (.node 178 ty178 .leaf .leaf) .leaf)) (.node 184 ty184 (.node 182 ty182 (.node 181 ty181 .leaf .leaf) (.node 183 ty183 .leaf .leaf)) (.node 186 ty186 (.node 185 ty185 .leaf .leaf) .leaf))))) (.node 217 ty217 (.node 202 ty202 (.node 195 ty195 (.node 191 ty191 (.node 189 ty189 (.node 188 ty188 .leaf .leaf) (.node 190 ty190 .leaf .leaf)) (.node 193 ty193 (.node 192 ty192 .leaf .leaf) (.node 194 ty194 .leaf .leaf))) (.node 199 ty199 (.node 197 ty197 (.node 196 ty196 .leaf .leaf) (.node 198 ty198 .leaf .leaf)) (.node 201 ty201 (.node 200 ty200 .leaf .leaf) .leaf))) (.node 209 ty209 (.node 206 ty206 (.node 204 ty204 (.node 203 ty203 .leaf .leaf) (.node 205 ty205 .leaf .leaf)) (.node 208 ty208 (.node 207 ty207 .leaf .leaf) .leaf)) (.node 214 ty214 (.node 211 ty211 (.node 210 ty210 .leaf .leaf) (.node 212 ty212 .leaf .leaf)) (.node 216 ty216 (.node 215 ty215 .leaf .leaf) .leaf)))) (.node 231 ty231 (.node 224 ty224 (.node 221 ty221 (.node 219 ty219 (.node 218 ty218 .leaf .leaf) (.node 220 ty220 .leaf .leaf)) (.node 223 ty223 (.node 222 ty222 .leaf .leaf) .leaf)) (.node 228 ty228 (.node 226 ty226 (.node 225 ty225 .leaf .leaf) (.node 227 ty227 .leaf .leaf)) (.node 230 ty230 (.node 229 ty229 .leaf .leaf) .leaf))) (.node 242 ty242 (.node 237 ty237 (.node 233 ty233 (.node 232 ty232 .leaf .leaf) (.node 234 ty234 .leaf .leaf)) (.node 241 ty241 (.node 240 ty240 .leaf .leaf) .leaf)) (.node 246 ty246 (.node 244 ty244 (.node 243 ty243 .leaf .leaf) (.node 245 ty245 .leaf .leaf)) (.node 248 ty248 (.node 247 ty247 .leaf .leaf) .leaf)))))))
noncomputable def fnT : NT Func := (.node 95 Try.f95 (.node 49 Try.f49 (.node 26 Try.f26 (.node 14 Try.f14 (.node 8 Try.f8 (.node 5 Try.f5 (.node 4 Try.f4 (.node 3 Try.f3 .leaf .leaf) .leaf) (.node 7 Try.f7 (.node 6 Try.f6 .leaf .leaf) .leaf)) (.node 11 Try.f11 (.node 10 Try.f10 (.node 9 Try.f9 .leaf .leaf) .leaf) (.node 13 Try.f13 (.node 12 Try.f12 .leaf .leaf) .leaf))) (.node 20 Try.f20 (.node 17 Try.f17 (.node 16 Try.f16 (.node 15 Try.f15 .leaf .leaf) .leaf) (.node 19 Try.f19 (.node 18 Try.f18 .leaf .leaf) .leaf)) (.node 23 Try.f23 (.node 22 Try.f22 (.node 21 Try.f21 .leaf .leaf) .leaf) (.node 25 Try.f25 (.node 24 Try.f24 .leaf .leaf) .leaf)))) (.node 38 Try.f38 (.node 32 Try.f32 (.node 29 Try.f29 (.node 28 Try.f28 (.node 27 Try.f27 .leaf .leaf) .leaf) (.node 31 Try.f31 (.node 30 Try.f30 .leaf .leaf) .leaf)) (.node 35 Try.f35 (.node 34 Try.f34 (.node 33 Try.f33 .leaf .leaf) .leaf) (.node 37 Try.f37 (.node 36 Try.f36 .leaf .leaf) .leaf))) (.node 44 Try.f44 (.node 41 Try.f41 (.node 40 Try.f40 (.node 39 Try.f39 .leaf .leaf) .leaf) (.node 43 Try.f43 (.node 42 Try.f42 .leaf .leaf) .leaf)) (.node 47 Try.f47 (.node 46 Try.f46 (.node 45 Try.f45 .leaf .leaf) .leaf) (.node 48 Try.f48 .leaf .leaf))))) (.node 72 Try.f72 (.node 61 Try.f61 (.node 55 Try.f55 (.node 52 Try.f52 (.node 51 Try.f51 (.node 50 Try.f50 .leaf .leaf) .leaf) (.node 54 Try.f54 (.node 53 Try.f53 .leaf .leaf) .leaf)) (.node 58 Try.f58 (.node 57 Try.f57 (.node 56 Try.f56 .leaf .leaf) .leaf) (.node 60 Try.f60 (.node 59 Try.f59 .leaf .leaf) .leaf))) (.node 67 Try.f67 (.node 64 Try.f64 (.node 63 Try.f63 (.node 62 Try.f62 .leaf .leaf) .leaf) (.node 66 Try.f66 (.node 65 Try.f65 .leaf .leaf) .leaf)) (.node 70 Try.f70 (.node 69 Try.f69 (.node 68 Try.f68 .leaf .leaf) .leaf) (.node 71 Try.f71 .leaf .leaf)))) (.node 84 Try.f84 (.node 78 Try.f78 (.node 75 Try.f75 (.node 74 Try.f74 (.node 73 Try.f73 .leaf .leaf) .leaf) (.node 77 Try.f77 (.node 76 Try.f76 .leaf .leaf) .leaf)) (.node 81 Try.f81 (.node 80 Try.f80 (.node 79 Try.f79 .leaf .leaf) .leaf) (.node 83 Try.f83 (.node 82 Try.f82 .leaf .leaf) .leaf))) (.node 90 Try.f90 (.node 87 Try.f87 (.node 86 Try.f86 (.node 85 Try.f85 .leaf .leaf) .leaf) (.node 89 Try.f89 (.node 88 Try.f88 .leaf .leaf) .leaf)) (.node 93 Try.f93 (.node 92 Try.f92 (.node 91 Try.f91 .leaf .leaf) .leaf) (.node 94 Try.f94 .leaf .leaf)))))) (.node 142 Try.f142 (.node 119 Try.f119 (.node 107 Try.f107 (.node 101 Try.f101 (.node 98 Try.f98 (.node 97 Try.f97 (.node 96 Try.f96 .leaf .leaf) .leaf) (.node 100 Try.f100 (.node 99 Try.f99 .leaf .leaf) .leaf)) (.node 104 Try.f104 (.node 103 Try.f103 (.node 102 Try.f102 .leaf .leaf) .leaf) (.node 106 Try.f106 (.node 105 Try.f105 .leaf .leaf) .leaf))) (.node 113 Try.f113 (.node 110 Try.f110 (.node 109 Try.f109 (.node 108 Try.f108 .leaf .leaf) .leaf) (.node 112 Try.f112 (.node 111 Try.f111 .leaf .leaf) .leaf)) (.node 116 Try.f116 (.node 115 Try.f115 (.node 114 Try.f114 .leaf .leaf) .leaf) (.node 118 Try.f118 (.node 117 Try.f117 .leaf .leaf) .leaf)))) (.node 131 Try.f131 (.node 125 Try.f125 (.node 122 Try.f122 (.node 121 Try.f121 (.node 120 Try.f120 .leaf .leaf) .leaf) (.node 124 Try.f124 (.node 123 Try.f123 .leaf .leaf) .leaf)) (.node 128 Try.f128 (.node 127 Try.f127 (.node 126 Try.f126 .leaf .leaf) .leaf) (.node 130 Try.f130 (.node 129 Try.f129 .leaf .leaf) .leaf))) (.node 137 Try.f137 (.node 134 Try.f134 (.node 133 Try.f133 (.node 132 Try.f132 .leaf .leaf) .leaf) (.node 136 Try.f136 (.node 135 Try.f135 .leaf .leaf) .leaf)) (.node 140 Try.f140 (.node 139 Try.f139 (.node 138 Try.f138 .leaf .leaf) .leaf) (.node 141 Try.f141 .leaf .leaf))))) (.node 165 Try.f165 (.node 154 Try.f154 (.node 148 Try.f148 (.node 145 Try.f145 (.node 144 Try.f144 (.node 143 Try.f143 .leaf .leaf) .leaf) (.node 147 Try.f147 (.node 146 Try.f146 .leaf .leaf) .leaf)) (.node 151 Try.f151 (.node 150 Try.f150 (.node 149 Try.f149 .leaf .leaf) .leaf) (.node 153 Try.f153 (.node 152 Try.f152 .leaf .leaf) .leaf))) (.node 160 Try.f160 (.node 157 Try.f157 (.node 156 Try.f156 (.node 155 Try.f155 .leaf .leaf) .leaf) (.node 159 Try.f159 (.node 158 Try.f158 .leaf .leaf) .leaf)) (.node 163 Try.f163 (.node 162 Try.f162 (.node 161 Try.f161 .leaf .leaf) .leaf) (.node 164 Try.f164 .leaf .leaf)))) (.node 177 Try.f177 (.node 171 Try.f171 (.node 168 Try.f168 (.node 167 Try.f167 (.node 166 Try.f166 .leaf .leaf) .leaf) (.node 170 Try.f170 (.node 169 Try.f169 .leaf .leaf) .leaf)) (.node 174 Try.f174 (.node 173 Try.f173 (.node 172 Try.f172 .leaf .leaf) .leaf) (.node 176 Try.f176 (.node 175 Try.f175 .leaf .leaf) .leaf))) (.node 183 Try.f183 (.node 180 Try.f180 (.node 179 Try.f179 (.node 178 Try.f178 .leaf .leaf) .leaf) (.node 182 Try.f182 (.node 181 Try.f181 .leaf .leaf) .leaf)) (.node 186 Try.f186 (.node 185 Try.f185 (.node 184 Try.f184 .leaf .leaf) .leaf) (.node 202 Try.f202 .leaf .leaf)))))))
noncomputable def mdT : NT Nat := (.node 95 1 (.node 57 1 (.node 38 1 (.node 29 1 (.node 24 4 (.node 22 4 (.node 21 4 (.node 20 3 .leaf .leaf) .leaf) (.node 23 4 .leaf .leaf)) (.node 27 1 (.node 26 1 (.node 25 4 .leaf .leaf) .leaf) (.node 28 1 .leaf .leaf))) (.node 34 1 (.node 32 1 (.node 31 1 (.node 30 3 .leaf .leaf) .leaf) (.node 33 1 .leaf .leaf)) (.node 36 1 (.node 35 1 .leaf .leaf) (.node 37 1 .leaf .leaf)))) (.node 48 1 (.node 43 1 (.node 41 1 (.node 40 4 (.node 39 1 .leaf .leaf) .leaf) (.node 42 1 .leaf .leaf)) (.node 46 1 (.node 45 3 (.node 44 4 .leaf .leaf) .leaf) (.node 47 1 .leaf .leaf))) (.node 53 1 (.node 51 1 (.node 50 1 (.node 49 1 .leaf .leaf) .leaf) (.node 52 1 .leaf .leaf)) (.node 55 1 (.node 54 1 .leaf .leaf) (.node 56 1 .leaf .leaf))))) (.node 76 1 (.node 67 1 (.node 62 1 (.node 60 1 (.node 59 1 (.node 58 1 .leaf .leaf) .leaf) (.node 61 1 .leaf .leaf)) (.node 65 1 (.node 64 1 (.node 63 1 .leaf .leaf) .leaf) (.node 66 1 .leaf .leaf))) (.node 72 1 (.node 70 4 (.node 69 1 (.node 68 1 .leaf .leaf) .leaf) (.node 71 1 .leaf .leaf)) (.node 74 1 (.node 73 1 .leaf .leaf) (.node 75 1 .leaf .leaf)))) (.node 86 4 (.node 81 1 (.node 79 4 (.node 78 1 (.node 77 1 .leaf .leaf) .leaf) (.node 80 4 .leaf .leaf)) (.node 84 4 (.node 83 1 (.node 82 1 .leaf .leaf) .leaf) (.node 85 4 .leaf .leaf))) (.node 91 1 (.node 89 1 (.node 88 4 (.node 87 4 .leaf .leaf) .leaf) (.node 90 1 .leaf .leaf)) (.node 93 1 (.node 92 1 .leaf .leaf) (.node 94 3 .leaf .leaf)))))) (.node 141 1 (.node 121 1 (.node 106 1 (.node 101 1 (.node 98 1 (.node 97 3 (.node 96 3 .leaf .leaf) .leaf) (.node 100 1 .leaf .leaf)) (.node 104 3 (.node 103 3 (.node 102 3 .leaf .leaf) .leaf) (.node 105 1 .leaf .leaf))) (.node 113 1 (.node 109 3 (.node 108 3 (.node 107 3 .leaf .leaf) .leaf) (.node 110 3 .leaf .leaf)) (.node 119 1 (.node 118 3 .leaf .leaf) (.node 120 1 .leaf .leaf)))) (.node 132 1 (.node 126 1 (.node 124 1 (.node 123 1 (.node 122 1 .leaf .leaf) .leaf) (.node 125 1 .leaf .leaf)) (.node 129 1 (.node 128 1 (.node 127 1 .leaf .leaf) .leaf) (.node 130 1 .leaf .leaf))) (.node 137 1 (.node 135 4 (.node 134 1 (.node 133 1 .leaf .leaf) .leaf) (.node 136 1 .leaf .leaf)) (.node 139 1 (.node 138 1 .leaf .leaf) (.node 140 1 .leaf .leaf))))) (.node 165 1 (.node 156 3 (.node 150 3 (.node 148 3 (.node 147 3 (.node 146 3 .leaf .leaf) .leaf) (.node 149 3 .leaf .leaf)) (.node 154 3 (.node 153 3 (.node 151 3 .leaf .leaf) .leaf) (.node 155 3 .leaf .leaf))) (.node 161 1 (.node 159 1 (.node 158 1 (.node 157 3 .leaf .leaf) .leaf) (.node 160 1 .leaf .leaf)) (.node 163 1 (.node 162 1 .leaf .leaf) (.node 164 1 .leaf .leaf)))) (.node 177 1 (.node 170 3 (.node 168 3 (.node 167 3 (.node 166 3 .leaf .leaf) .leaf) (.node 169 3 .leaf .leaf)) (.node 175 1 (.node 172 4 .leaf .leaf) (.node 176 1 .leaf .leaf))) (.node 183 1 (.node 181 1 (.node 179 1 (.node 178 1 .leaf .leaf) .leaf) (.node 182 1 .leaf .leaf)) (.node 185 1 (.node 184 1 .leaf .leaf) (.node 186 1 .leaf .leaf)))))))
noncomputable def fzT : NT (List Nat) := (.node 94 [20, 26, 53] (.node 48 [] (.node 25 [] (.node 14 [] (.node 8 [] (.node 5 [] (.node 4 [] (.node 3 [] .leaf .leaf) .leaf) (.node 7 [] (.node 6 [] .leaf .leaf) .leaf)) (.node 11 [] (.node 10 [] (.node 9 [] .leaf .leaf) .leaf) (.node 13 [] (.node 12 [] .leaf .leaf) .leaf))) (.node 20 [] (.node 17 [] (.node 16 [] (.node 15 [] .leaf .leaf) .leaf) (.node 19 [] (.node 18 [] .leaf .leaf) .leaf)) (.node 23 [] (.node 22 [] (.node 21 [] .leaf .leaf) .leaf) (.node 24 [] .leaf .leaf)))) (.node 37 [] (.node 31 [] (.node 28 [] (.node 27 [] (.node 26 [] .leaf .leaf) .leaf) (.node 30 [6, 24, 29, 33, 37, 41] (.node 29 [] .leaf .leaf) .leaf)) (.node 34 [] (.node 33 [] (.node 32 [] .leaf .leaf) .leaf) (.node 36 [] (.node 35 [] .leaf .leaf) .leaf))) (.node 43 [] (.node 40 [] (.node 39 [] (.node 38 [] .leaf .leaf) .leaf) (.node 42 [] (.node 41 [] .leaf .leaf) .leaf)) (.node 46 [] (.node 45 [] (.node 44 [] .leaf .leaf) .leaf) (.node 47 [] .leaf .leaf))))) (.node 71 [] (.node 60 [] (.node 54 [] (.node 51 [] (.node 50 [] (.node 49 [] .leaf .leaf) .leaf) (.node 53 [] (.node 52 [] .leaf .leaf) .leaf)) (.node 57 [] (.node 56 [] (.node 55 [] .leaf .leaf) .leaf) (.node 59 [] (.node 58 [] .leaf .leaf) .leaf))) (.node 66 [] (.node 63 [] (.node 62 [] (.node 61 [] .leaf .leaf) .leaf) (.node 65 [] (.node 64 [] .leaf .leaf) .leaf)) (.node 69 [] (.node 68 [] (.node 67 [] .leaf .leaf) .leaf) (.node 70 [] .leaf .leaf)))) (.node 83 [] (.node 77 [] (.node 74 [] (.node 73 [] (.node 72 [] .leaf .leaf) .leaf) (.node 76 [] (.node 75 [] .leaf .leaf) .leaf)) (.node 80 [] (.node 79 [] (.node 78 [] .leaf .leaf) .leaf) (.node 82 [] (.node 81 [] .leaf .leaf) .leaf))) (.node 89 [] (.node 86 [] (.node 85 [] (.node 84 [] .leaf .leaf) .leaf) (.node 88 [] (.node 87 [] .leaf .leaf) .leaf)) (.node 92 [] (.node 91 [] (.node 90 [] .leaf .leaf) .leaf) (.node 93 [] .leaf .leaf)))))) (.node 141 [] (.node 117 [] (.node 106 [] (.node 100 [] (.node 97 [] (.node 96 [] (.node 95 [] .leaf .leaf) .leaf) (.node 99 [] (.node 98 [] .leaf .leaf) .leaf)) (.node 103 [] (.node 102 [] (.node 101 [] .leaf .leaf) .leaf) (.node 105 [] (.node 104 [] .leaf .leaf) .leaf))) (.node 112 [] (.node 109 [] (.node 108 [] (.node 107 [] .leaf .leaf) .leaf) (.node 111 [] (.node 110 [] .leaf .leaf) .leaf)) (.node 115 [] (.node 114 [] (.node 113 [] .leaf .leaf) .leaf) (.node 116 [] .leaf .leaf)))) (.node 129 [] (.node 123 [] (.node 120 [] (.node 119 [] (.node 118 [] .leaf .leaf) .leaf) (.node 122 [] (.node 121 [] .leaf .leaf) .leaf)) (.node 126 [] (.node 125 [] (.node 124 [] .leaf .leaf) .leaf) (.node 128 [] (.node 127 [] .leaf .leaf) .leaf))) (.node 136 [] (.node 132 [] (.node 131 [] (.node 130 [] .leaf .leaf) .leaf) (.node 135 [] (.node 134 [] .leaf .leaf) .leaf)) (.node 139 [] (.node 138 [] (.node 137 [] .leaf .leaf) .leaf) (.node 140 [] .leaf .leaf))))) (.node 164 [] (.node 153 [] (.node 147 [] (.node 144 [] (.node 143 [] (.node 142 [] .leaf .leaf) .leaf) (.node 146 [7] (.node 145 [] .leaf .leaf) .leaf)) (.node 150 [] (.node 149 [] (.node 148 [] .leaf .leaf) .leaf) (.node 152 [] (.node 151 [] .leaf .leaf) .leaf))) (.node 159 [] (.node 156 [] (.node 155 [] (.node 154 [] .leaf .leaf) .leaf) (.node 158 [] (.node 157 [] .leaf .leaf) .leaf)) (.node 162 [] (.node 161 [] (.node 160 [] .leaf .leaf) .leaf) (.node 163 [] .leaf .leaf)))) (.node 177 [] (.node 170 [] (.node 167 [] (.node 166 [4] (.node 165 [] .leaf .leaf) .leaf) (.node 169 [] (.node 168 [148] .leaf .leaf) .leaf)) (.node 174 [] (.node 173 [] (.node 172 [] .leaf .leaf) .leaf) (.node 176 [] (.node 175 [] .leaf .leaf) .leaf))) (.node 183 [] (.node 180 [] (.node 179 [] (.node 178 [] .leaf .leaf) .leaf) (.node 182 [] (.node 181 [] .leaf .leaf) .leaf)) (.node 186 [] (.node 185 [] (.node 184 [] .leaf .leaf) .leaf) (.node 202 [] .leaf .leaf)))))))
noncomputable def cfg : Cfg := ⟨fnT, tyT, mdT, fzT, some []⟩
end Go.Proofs.Ytgnpnfkncbnjnaa
namespace Go.Proofs.Ytgnpnfkncbnjnaa
open Go.Am
theorem tok1 : TyOk Try.prog 1 ty1 := tyOk_of (by kernel_rfl) (by kernel_rfl)
theorem tok2 : TyOk Try.prog 2 ty2 := tyOk_of (by kernel_rfl) (by kernel_rfl)
theorem tok3 : TyOk Try.prog 3 ty3 := tyOk_of (by kernel_rfl) (by kernel_rfl)
theorem tok4 : TyOk Try.prog 4 ty4 := tyOk_of (by kernel_rfl) (by kernel_rfl)
theorem tok5 : TyOk Try.prog 5 ty5 := tyOk_of (by kernel_rfl) (by kernel_rfl)
theorem tok6 : TyOk Try.prog 6 ty6 := tyOk_of (by kernel_rfl) (by kernel_rfl)
theorem tok9 : TyOk Try.prog 9 ty9 := tyOk_of (by kernel_rfl) (by kernel_rfl)
theorem tok10 : TyOk Try.prog 10 ty10 := tyOk_of (by kernel_rfl) (by kernel_rfl)
theorem tok11 : TyOk Try.prog 11 ty11 := tyOk_of (by kernel_rfl) (by kernel_rfl)
theorem tok12 : TyOk Try.prog 12 ty12 := tyOk_of (by kernel_rfl) (by kernel_rfl)
theorem tok15 : TyOk Try.prog 15 ty15 := tyOk_of (by kernel_rfl) (by kernel_rfl)
theorem tok16 : TyOk Try.prog 16 ty16 := tyOk_of (by kernel_rfl) (by kernel_rfl)
theorem tok17 : TyOk Try.prog 17 ty17 := tyOk_of (by kernel_rfl) (by kernel_rfl)
theorem tok18 : TyOk Try.prog 18 ty18 := tyOk_of (by kernel_rfl) (by kernel_rfl)
theorem tok19 : TyOk Try.prog 19 ty19 := tyOk_of (by kernel_rfl) (by kernel_rfl)
theorem tok21 : TyOk Try.prog 21 ty21 := tyOk_of (by kernel_rfl) (by kernel_rfl)
theorem tok22 : TyOk Try.prog 22 ty22 := tyOk_of (by kernel_rfl) (by kernel_rfl)
theorem tok23 : TyOk Try.prog 23 ty23 := tyOk_of (by kernel_rfl) (by kernel_rfl)
theorem tok24 : TyOk Try.prog 24 ty24 := tyOk_of (by kernel_rfl) (by kernel_rfl)
theorem tok25 : TyOk Try.prog 25 ty25 := tyOk_of (by kernel_rfl) (by kernel_rfl)
theorem tok26 : TyOk Try.prog 26 ty26 := tyOk_of (by kernel_rfl) (by kernel_rfl)
theorem tok27 : TyOk Try.prog 27 ty27 := tyOk_of (by kernel_rfl) (by kernel_rfl)
theorem tok28 : TyOk Try.prog 28 ty28 := tyOk_of (by kernel_rfl) (by kernel_rfl)
theorem tok29 : TyOk Try.prog 29 ty29 := tyOk_of (by kernel_rfl) (by kernel_rfl)
theorem tok30 : TyOk Try.prog 30 ty30 := tyOk_of (by kernel_rfl) (by kernel_rfl)
theorem tok31 : TyOk Try.prog 31 ty31 := tyOk_of (by kernel_rfl) (by kernel_rfl)
theorem tok32 : TyOk Try.prog 32 ty32 := tyOk_of (by kernel_rfl) (by kernel_rfl)
theorem tok33 : TyOk Try.prog 33 ty33 := tyOk_of (by kernel_rfl) (by kernel_rfl)
theorem tok34 : TyOk Try.prog 34 ty34 := tyOk_of (by kernel_rfl) (by kernel_rfl)
theorem tok35 : TyOk Try.prog 35 ty35 := tyOk_of (by kernel_rfl) (by kernel_rfl)
theorem tok36 : TyOk Try.prog 36 ty36 := tyOk_of (by kernel_rfl) (by kernel_rfl)
theorem tok37 : TyOk Try.prog 37 ty37 := tyOk_of (by kernel_rfl) (by kernel_rfl)
theorem tok38 : TyOk Try.prog 38 ty38 := tyOk_of (by kernel_rfl) (by kernel_rfl)
theorem tok39 : TyOk Try.prog 39 ty39 := tyOk_of (by kernel_rfl) (by kernel_rfl)
theorem tok40 : TyOk Try.prog 40 ty40 := tyOk_of (by kernel_rfl) (by kernel_rfl)
theorem tok41 : TyOk Try.prog 41 ty41 := tyOk_of (by kernel_rfl) (by kernel_rfl)
theorem tok42 : TyOk Try.prog 42 ty42 := tyOk_of (by kernel_rfl) (by kernel_rfl)
theorem tok43 : TyOk Try.prog 43 ty43 := tyOk_of (by kernel_rfl) (by kernel_rfl)
theorem tok44 : TyOk Try.prog 44 ty44 := tyOk_of (by kernel_rfl) (by kernel_rfl)
theorem tok45 : TyOk Try.prog 45 ty45 := tyOk_of (by kernel_rfl) (by kernel_rfl)
theorem tok46 : TyOk Try.prog 46 ty46 := tyOk_of (by kernel_rfl) (by kernel_rfl)
theorem tok47 : TyOk Try.prog 47 ty47 := tyOk_of (by kernel_rfl) (by kernel_rfl)
theorem tok49 : TyOk Try.prog 49 ty49 := tyOk_of (by kernel_rfl) (by kernel_rfl)
theorem tok50 : TyOk Try.prog 50 ty50 := tyOk_of (by kernel_rfl) (by kernel_rfl)
theorem tok51 : TyOk Try.prog 51 ty51 := tyOk_of (by kernel_rfl) (by kernel_rfl)
theorem tok52 : TyOk Try.prog 52 ty52 := tyOk_of (by kernel_rfl) (by kernel_rfl)
theorem tok53 : TyOk Try.prog 53 ty53 := tyOk_of (by kernel_rfl) (by kernel_rfl)
theorem tok54 : TyOk Try.prog 54 ty54 := tyOk_of (by kernel_rfl) (by kernel_rfl)
theorem tok55 : TyOk Try.prog 55 ty55 := tyOk_of (by kernel_rfl) (by kernel_rfl)
theorem tok56 : TyOk Try.prog 56 ty56 := tyOk_of (by kernel_rfl) (by kernel_rfl)
theorem tok58 : TyOk Try.prog 58 ty58 := tyOk_of (by kernel_rfl) (by kernel_rfl)
theorem tok59 : TyOk Try.prog 59 ty59 := tyOk_of (by kernel_rfl) (by kernel_rfl)
theorem tok60 : TyOk Try.prog 60 ty60 := tyOk_of (by kernel_rfl) (by kernel_rfl)
theorem tok61 : TyOk Try.prog 61 ty61 := tyOk_of (by kernel_rfl) (by kernel_rfl)
theorem tok62 : TyOk Try.prog 62 ty62 := tyOk_of (by kernel_rfl) (by kernel_rfl)
theorem tok63 : TyOk Try.prog 63 ty63 := tyOk_of (by kernel_rfl) (by kernel_rfl)
theorem tok64 : TyOk Try.prog 64 ty64 := tyOk_of (by kernel_rfl) (by kernel_rfl)
theorem tok65 : TyOk Try.prog 65 ty65 := tyOk_of (by kernel_rfl) (by kernel_rfl)
theorem tok66 : TyOk Try.prog 66 ty66 := tyOk_of (by kernel_rfl) (by kernel_rfl)
theorem tok67 : TyOk Try.prog 67 ty67 := tyOk_of (by kernel_rfl) (by kernel_rfl)
theorem tok68 : TyOk Try.prog 68 ty68 := tyOk_of (by kernel_rfl) (by kernel_rfl)
theorem tok69 : TyOk Try.prog 69 ty69 := tyOk_of (by kernel_rfl) (by kernel_rfl)
theorem tok70 : TyOk Try.prog 70 ty70 := tyOk_of (by kernel_rfl) (by kernel_rfl)
theorem tok71 : TyOk Try.prog 71 ty71 := tyOk_of (by kernel_rfl) (by kernel_rfl)
theorem tok72 : TyOk Try.prog 72 ty72 := tyOk_of (by kernel_rfl) (by kernel_rfl)
theorem tok73 : TyOk Try.prog 73 ty73 := tyOk_of (by kernel_rfl) (by kernel_rfl)
theorem tok74 : TyOk Try.prog 74 ty74 := tyOk_of (by kernel_rfl) (by kernel_rfl)
theorem tok75 : TyOk Try.prog 75 ty75 := tyOk_of (by kernel_rfl) (by kernel_rfl)
theorem tok76 : TyOk Try.prog 76 ty76 := tyOk_of (by kernel_rfl) (by kernel_rfl)
theorem tok77 : TyOk Try.prog 77 ty77 := tyOk_of (by kernel_rfl) (by kernel_rfl)
theorem tok78 : TyOk Try.prog 78 ty78 := tyOk_of (by kernel_rfl) (by kernel_rfl)
theorem tok80 : TyOk Try.prog 80 ty80 := tyOk_of (by kernel_rfl) (by kernel_rfl)
theorem tok81 : TyOk Try.prog 81 ty81 := tyOk_of (by kernel_rfl) (by kernel_rfl)
theorem tok82 : TyOk Try.prog 82 ty82 := tyOk_of (by kernel_rfl) (by kernel_rfl)
theorem tok83 : TyOk Try.prog 83 ty83 := tyOk_of (by kernel_rfl) (by kernel_rfl)
theorem tok84 : TyOk Try.prog 84 ty84 := tyOk_of (by kernel_rfl) (by kernel_rfl)
theorem tok85 : TyOk Try.prog 85 ty85 := tyOk_of (by kernel_rfl) (by kernel_rfl)
theorem tok86 : TyOk Try.prog 86 ty86 := tyOk_of (by kernel_rfl) (by kernel_rfl)
theorem tok87 : TyOk Try.prog 87 ty87 := tyOk_of (by kernel_rfl) (by kernel_rfl)
theorem tok89 : TyOk Try.prog 89 ty89 := tyOk_of (by kernel_rfl) (by kernel_rfl)
theorem tok90 : TyOk Try.prog 90 ty90 := tyOk_of (by kernel_rfl) (by kernel_rfl)
theorem tok91 : TyOk Try.prog 91 ty91 := tyOk_of (by kernel_rfl) (by kernel_rfl)
theorem tok92 : TyOk Try.prog 92 ty92 := tyOk_of (by kernel_rfl) (by kernel_rfl)
theorem tok93 : TyOk Try.prog 93 ty93 := tyOk_of (by kernel_rfl) (by kernel_rfl)
theorem tok94 : TyOk Try.prog 94 ty94 := tyOk_of (by kernel_rfl) (by kernel_rfl)
theorem tok95 : TyOk Try.prog 95 ty95 := tyOk_of (by kernel_rfl) (by kernel_rfl)
theorem tok96 : TyOk Try.prog 96 ty96 := tyOk_of (by kernel_rfl) (by kernel_rfl)
theorem tok97 : TyOk Try.prog 97 ty97 := tyOk_of (by kernel_rfl) (by kernel_rfl)
theorem tok98 : TyOk Try.prog 98 ty98 := tyOk_of (by kernel_rfl) (by kernel_rfl)
theorem tok100 : TyOk Try.prog 100 ty100 := tyOk_of (by kernel_rfl) (by kernel_rfl)
theorem tok101 : TyOk Try.prog 101 ty101 := tyOk_of (by kernel_rfl) (by kernel_rfl)
theorem tok102 : TyOk Try.prog 102 ty102 := tyOk_of (by kernel_rfl) (by kernel_rfl)
theorem tok103 : TyOk Try.prog 103 ty103 := tyOk_of (by kernel_rfl) (by kernel_rfl)
theorem tok104 : TyOk Try.prog 104 ty104 := tyOk_of (by kernel_rfl) (by kernel_rfl)
theorem tok105 : TyOk Try.prog 105 ty105 := tyOk_of (by kernel_rfl) (by kernel_rfl)
theorem tok106 : TyOk Try.prog 106 ty106 := tyOk_of (by kernel_rfl) (by kernel_rfl)
theorem tok107 : TyOk Try.prog 107 ty107 := tyOk_of (by kernel_rfl) (by kernel_rfl)
theorem tok108 : TyOk Try.prog 108 ty108 := tyOk_of (by kernel_rfl) (by kernel_rfl)
theorem tok109 : TyOk Try.prog 109 ty109 := tyOk_of (by kernel_rfl) (by kernel_rfl)
theorem tok111 : TyOk Try.prog 111 ty111 := tyOk_of (by kernel_rfl) (by kernel_rfl)
theorem tok112 : TyOk Try.prog 112 ty112 := tyOk_of (by kernel_rfl) (by kernel_rfl)
theorem tok113 : TyOk Try.prog 113 ty113 := tyOk_of (by kernel_rfl) (by kernel_rfl)
theorem tok114 : TyOk Try.prog 114 ty114 := tyOk_of (by kernel_rfl) (by kernel_rfl)
theorem tok115 : TyOk Try.prog 115 ty115 := tyOk_of (by kernel_rfl) (by kernel_rfl)
theorem tok116 : TyOk Try.prog 116 ty116 := tyOk_of (by kernel_rfl) (by kernel_rfl)
theorem tok117 : TyOk Try.prog 117 ty117 := tyOk_of (by kernel_rfl) (by kernel_rfl)
theorem tok118 : TyOk Try.prog 118 ty118 := tyOk_of (by kernel_rfl) (by kernel_rfl)
theorem tok120 : TyOk Try.prog 120 ty120 := tyOk_of (by kernel_rfl) (by kernel_rfl)
theorem tok121 : TyOk Try.prog 121 ty121 := tyOk_of (by kernel_rfl) (by kernel_rfl)
theorem tok122 : TyOk Try.prog 122 ty122 := tyOk_of (by kernel_rfl) (by kernel_rfl)
theorem tok123 : TyOk Try.prog 123 ty123 := tyOk_of (by kernel_rfl) (by kernel_rfl)
theorem tok124 : TyOk Try.prog 124 ty124 := tyOk_of (by kernel_rfl) (by kernel_rfl)
theorem tok125 : TyOk Try.prog 125 ty125 := tyOk_of (by kernel_rfl) (by kernel_rfl)
theorem tok126 : TyOk Try.prog 126 ty126 := tyOk_of (by kernel_rfl) (by kernel_rfl)
theorem tok127 : TyOk Try.prog 127 ty127 := tyOk_of (by kernel_rfl) (by kernel_rfl)
theorem tok128 : TyOk Try.prog 128 ty128 := tyOk_of (by kernel_rfl) (by kernel_rfl)
theorem tok129 : TyOk Try.prog 129 ty129 := tyOk_of (by kernel_rfl) (by kernel_rfl)
theorem tok130 : TyOk Try.prog 130 ty130 := tyOk_of (by kernel_rfl) (by kernel_rfl)
theorem tok131 : TyOk Try.prog 131 ty131 := tyOk_of (by kernel_rfl) (by kernel_rfl)
theorem tok132 : TyOk Try.prog 132 ty132 := tyOk_of (by kernel_rfl) (by kernel_rfl)
theorem tok133 : TyOk Try.prog 133 ty133 := tyOk_of (by kernel_rfl) (by kernel_rfl)
theorem tok134 : TyOk Try.prog 134 ty134 := tyOk_of (by kernel_rfl) (by kernel_rfl)
theorem tok135 : TyOk Try.prog 135 ty135 := tyOk_of (by kernel_rfl) (by kernel_rfl)
theorem tok136 : TyOk Try.prog 136 ty136 := tyOk_of (by kernel_rfl) (by kernel_rfl)
theorem tok137 : TyOk Try.prog 137 ty137 := tyOk_of (by kernel_rfl) (by kernel_rfl)
theorem tok138 : TyOk Try.prog 138 ty138 := tyOk_of (by kernel_rfl) (by kernel_rfl)
theorem tok139 : TyOk Try.prog 139 ty139 := tyOk_of (by kernel_rfl) (by kernel_rfl)
theorem tok140 : TyOk Try.prog 140 ty140 := tyOk_of (by kernel_rfl) (by kernel_rfl)
theorem tok141 : TyOk Try.prog 141 ty141 := tyOk_of (by kernel_rfl) (by kernel_rfl)
theorem tok142 : TyOk Try.prog 142 ty142 := tyOk_of (by kernel_rfl) (by kernel_rfl)
theorem tok143 : TyOk Try.prog 143 ty143 := tyOk_of (by kernel_rfl) (by kernel_rfl)
theorem tok144 : TyOk Try.prog 144 ty144 := tyOk_of (by kernel_rfl) (by kernel_rfl)
theorem tok145 : TyOk Try.prog 145 ty145 := tyOk_of (by kernel_rfl) (by kernel_rfl)
theorem tok146 : TyOk Try.prog 146 ty146 := tyOk_of (by kernel_rfl) (by kernel_rfl)
theorem tok147 : TyOk Try.prog 147 ty147 := tyOk_of (by kernel_rfl) (by kernel_rfl)
theorem tok148 : TyOk Try.prog 148 ty148 := tyOk_of (by kernel_rfl) (by kernel_rfl)
theorem tok149 : TyOk Try.prog 149 ty149 := tyOk_of (by kernel_rfl) (by kernel_rfl)
theorem tok150 : TyOk Try.prog 150 ty150 := tyOk_of (by kernel_rfl) (by kernel_rfl)
theorem tok151 : TyOk Try.prog 151 ty151 := tyOk_of (by kernel_rfl) (by kernel_rfl)
theorem tok152 : TyOk Try.prog 152 ty152 := tyOk_of (by kernel_rfl) (by kernel_rfl)
theorem tok153 : TyOk Try.prog 153 ty153 := tyOk_of (by kernel_rfl) (by kernel_rfl)
theorem tok154 : TyOk Try.prog 154 ty154 := tyOk_of (by kernel_rfl) (by kernel_rfl)
theorem tok155 : TyOk Try.prog 155 ty155 := tyOk_of (by kernel_rfl) (by kernel_rfl)
theorem tok156 : TyOk Try.prog 156 ty156 := tyOk_of (by kernel_rfl) (by kernel_rfl)
theorem tok157 : TyOk Try.prog 157 ty157 := tyOk_of (by kernel_rfl) (by kernel_rfl)
theorem tok158 : TyOk Try.prog 158 ty158 := tyOk_of (by kernel_rfl) (by kernel_rfl)
theorem tok160 : TyOk Try.prog 160 ty160 := tyOk_of (by kernel_rfl) (by kernel_rfl)
theorem tok161 : TyOk Try.prog 161 ty161 := tyOk_of (by kernel_rfl) (by kernel_rfl)
theorem tok162 : TyOk Try.prog 162 ty162 := tyOk_of (by kernel_rfl) (by kernel_rfl)
theorem tok163 : TyOk Try.prog 163 ty163 := tyOk_of (by kernel_rfl) (by kernel_rfl)
theorem tok164 : TyOk Try.prog 164 ty164 := tyOk_of (by kernel_rfl) (by kernel_rfl)
theorem tok165 : TyOk Try.prog 165 ty165 := tyOk_of (by kernel_rfl) (by kernel_rfl)
theorem tok166 : TyOk Try.prog 166 ty166 := tyOk_of (by kernel_rfl) (by kernel_rfl)
theorem tok167 : TyOk Try.prog 167 ty167 := tyOk_of (by kernel_rfl) (by kernel_rfl)
theorem tok168 : TyOk Try.prog 168 ty168 := tyOk_of (by kernel_rfl) (by kernel_rfl)
theorem tok169 : TyOk Try.prog 169 ty169 := tyOk_of (by kernel_rfl) (by kernel_rfl)
theorem tok170 : TyOk Try.prog 170 ty170 := tyOk_of (by kernel_rfl) (by kernel_rfl)
theorem tok171 : TyOk Try.prog 171 ty171 := tyOk_of (by kernel_rfl) (by kernel_rfl)
theorem tok172 : TyOk Try.prog 172 ty172 := tyOk_of (by kernel_rfl) (by kernel_rfl)
theorem tok173 : TyOk Try.prog 173 ty173 := tyOk_of (by kernel_rfl) (by kernel_rfl)
theorem tok174 : TyOk Try.prog 174 ty174 := tyOk_of (by kernel_rfl) (by kernel_rfl)
theorem tok175 : TyOk Try.prog 175 ty175 := tyOk_of (by kernel_rfl) (by kernel_rfl)
theorem tok176 : TyOk Try.prog 176 ty176 := tyOk_of (by kernel_rfl) (by kernel_rfl)
theorem tok177 : TyOk Try.prog 177 ty177 := tyOk_of (by kernel_rfl) (by kernel_rfl)
theorem tok178 : TyOk Try.prog 178 ty178 := tyOk_of (by kernel_rfl) (by kernel_rfl)
theorem tok179 : TyOk Try.prog 179 ty179 := tyOk_of (by kernel_rfl) (by kernel_rfl)
theorem tok180 : TyOk Try.prog 180 ty180 := tyOk_of (by kernel_rfl) (by kernel_rfl)
theorem tok181 : TyOk Try.prog 181 ty181 := tyOk_of (by kernel_rfl) (by kernel_rfl)
theorem tok182 : TyOk Try.prog 182 ty182 := tyOk_of (by kernel_rfl) (by kernel_rfl)
theorem tok183 : TyOk Try.prog 183 ty183 := tyOk_of (by kernel_rfl) (by kernel_rfl)
theorem tok184 : TyOk Try.prog 184 ty184 := tyOk_of (by kernel_rfl) (by kernel_rfl)
theorem tok185 : TyOk Try.prog 185 ty185 := tyOk_of (by kernel_rfl) (by kernel_rfl)
theorem tok186 : TyOk Try.prog 186 ty186 := tyOk_of (by kernel_rfl) (by kernel_rfl)
theorem tok187 : TyOk Try.prog 187 ty187 := tyOk_of (by kernel_rfl) (by kernel_rfl)
theorem tok188 : TyOk Try.prog 188 ty188 := tyOk_of (by kernel_rfl) (by kernel_rfl)
theorem tok189 : TyOk Try.prog 189 ty189 := tyOk_of (by kernel_rfl) (by kernel_rfl)
theorem tok190 : TyOk Try.prog 190 ty190 := tyOk_of (by kernel_rfl) (by kernel_rfl)
theorem tok191 : TyOk Try.prog 191 ty191 := tyOk_of (by kernel_rfl) (by kernel_rfl)
theorem tok192 : TyOk Try.prog 192 ty192 := tyOk_of (by kernel_rfl) (by kernel_rfl)
theorem tok193 : TyOk Try.prog 193 ty193 := tyOk_of (by kernel_rfl) (by kernel_rfl)
theorem tok194 : TyOk Try.prog 194 ty194 := tyOk_of (by kernel_rfl) (by kernel_rfl)
theorem tok195 : TyOk Try.prog 195 ty195 := tyOk_of (by kernel_rfl) (by kernel_rfl)
theorem tok196 : TyOk Try.prog 196 ty196 := tyOk_of (by kernel_rfl) (by kernel_rfl)
theorem tok197 : TyOk Try.prog 197 ty197 := tyOk_of (by kernel_rfl) (by kernel_rfl)
theorem tok198 : TyOk Try.prog 198 ty198 := tyOk_of (by kernel_rfl) (by kernel_rfl)
theorem tok199 : TyOk Try.prog 199 ty199 := tyOk_of (by kernel_rfl) (by kernel_rfl)
theorem tok200 : TyOk Try.prog 200 ty200 := tyOk_of (by kernel_rfl) (by kernel_rfl)
theorem tok201 : TyOk Try.prog 201 ty201 := tyOk_of (by kernel_rfl) (by kernel_rfl)
theorem tok202 : TyOk Try.prog 202 ty202 := tyOk_of (by kernel_rfl) (by kernel_rfl)
theorem tok203 : TyOk Try.prog 203 ty203 := tyOk_of (by kernel_rfl) (by kernel_rfl)
theorem tok204 : TyOk Try.prog 204 ty204 := tyOk_of (by kernel_rfl) (by kernel_rfl)
theorem tok205 : TyOk Try.prog 205 ty205 := tyOk_of (by kernel_rfl) (by kernel_rfl)
theorem tok206 : TyOk Try.prog 206 ty206 := tyOk_of (by kernel_rfl) (by kernel_rfl)
theorem tok207 : TyOk Try.prog 207 ty207 := tyOk_of (by kernel_rfl) (by kernel_rfl)
theorem tok208 : TyOk Try.prog 208 ty208 := tyOk_of (by kernel_rfl) (by kernel_rfl)
theorem tok209 : TyOk Try.prog 209 ty209 := tyOk_of (by kernel_rfl) (by kernel_rfl)
theorem tok210 : TyOk Try.prog 210 ty210 := tyOk_of (by kernel_rfl) (by kernel_rfl)
theorem tok211 : TyOk Try.prog 211 ty211 := tyOk_of (by kernel_rfl) (by kernel_rfl)
theorem tok212 : TyOk Try.prog 212 ty212 := tyOk_of (by kernel_rfl) (by kernel_rfl)
theorem tok214 : TyOk Try.prog 214 ty214 := tyOk_of (by kernel_rfl) (by kernel_rfl)
theorem tok215 : TyOk Try.prog 215 ty215 := tyOk_of (by kernel_rfl) (by kernel_rfl)
theorem tok216 : TyOk Try.prog 216 ty216 := tyOk_of (by kernel_rfl) (by kernel_rfl)
theorem tok217 : TyOk Try.prog 217 ty217 := tyOk_of (by kernel_rfl) (by kernel_rfl)
theorem tok218 : TyOk Try.prog 218 ty218 := tyOk_of (by kernel_rfl) (by kernel_rfl)
theorem tok219 : TyOk Try.prog 219 ty219 := tyOk_of (by kernel_rfl) (by kernel_rfl)
theorem tok220 : TyOk Try.prog 220 ty220 := tyOk_of (by kernel_rfl) (by kernel_rfl)
theorem tok221 : TyOk Try.prog 221 ty221 := tyOk_of (by kernel_rfl) (by kernel_rfl)
theorem tok222 : TyOk Try.prog 222 ty222 := tyOk_of (by kernel_rfl) (by kernel_rfl)
theorem tok223 : TyOk Try.prog 223 ty223 := tyOk_of (by kernel_rfl) (by kernel_rfl)
theorem tok224 : TyOk Try.prog 224 ty224 := tyOk_of (by kernel_rfl) (by kernel_rfl)
theorem tok225 : TyOk Try.prog 225 ty225 := tyOk_of (by kernel_rfl) (by kernel_rfl)
theorem tok226 : TyOk Try.prog 226 ty226 := tyOk_of (by kernel_rfl) (by kernel_rfl)
theorem tok227 : TyOk Try.prog 227 ty227 := tyOk_of (by kernel_rfl) (by kernel_rfl)
theorem tok228 : TyOk Try.prog 228 ty228 := tyOk_of (by kernel_rfl) (by kernel_rfl)
theorem tok229 : TyOk Try.prog 229 ty229 := tyOk_of (by kernel_rfl) (by kernel_rfl)
theorem tok230 : TyOk Try.prog 230 ty230 := tyOk_of (by kernel_rfl) (by kernel_rfl)
theorem tok231 : TyOk Try.prog 231 ty231 := tyOk_of (by kernel_rfl) (by kernel_rfl)
theorem tok232 : TyOk Try.prog 232 ty232 := tyOk_of (by kernel_rfl) (by kernel_rfl)
theorem tok233 : TyOk Try.prog 233 ty233 := tyOk_of (by kernel_rfl) (by kernel_rfl)
theorem tok234 : TyOk Try.prog 234 ty234 := tyOk_of (by kernel_rfl) (by kernel_rfl)
theorem tok237 : TyOk Try.prog 237 ty237 := tyOk_of (by kernel_rfl) (by kernel_rfl)
theorem tok240 : TyOk Try.prog 240 ty240 := tyOk_of (by kernel_rfl) (by kernel_rfl)
theorem tok241 : TyOk Try.prog 241 ty241 := tyOk_of (by kernel_rfl) (by kernel_rfl)
theorem tok242 : TyOk Try.prog 242 ty242 := tyOk_of (by kernel_rfl) (by kernel_rfl)
theorem tok243 : TyOk Try.prog 243 ty243 := tyOk_of (by kernel_rfl) (by kernel_rfl)
theorem tok244 : TyOk Try.prog 244 ty244 := tyOk_of (by kernel_rfl) (by kernel_rfl)
theorem tok245 : TyOk Try.prog 245 ty245 := tyOk_of (by kernel_rfl) (by kernel_rfl)
theorem tok246 : TyOk Try.prog 246 ty246 := tyOk_of (by kernel_rfl) (by kernel_rfl)
theorem tok247 : TyOk Try.prog 247 ty247 := tyOk_of (by kernel_rfl) (by kernel_rfl)
theorem tok248 : TyOk Try.prog 248 ty248 := tyOk_of (by kernel_rfl) (by kernel_rfl)
theorem fok3 : Try.prog.funcs[3]? = some Try.f3 ∧ (Try.f3.name == "runtime.NumGoroutine") = false := ⟨Try.func3, by kernel_rfl⟩
theorem fok4 : Try.prog.funcs[4]? = some Try.f4 ∧ (Try.f4.name == "runtime.NumGoroutine") = false := ⟨Try.func4, by kernel_rfl⟩
theorem fok5 : Try.prog.funcs[5]? = some Try.f5 ∧ (Try.f5.name == "runtime.NumGoroutine") = false := ⟨Try.func5, by kernel_rfl⟩
theorem fok6 : Try.prog.funcs[6]? = some Try.f6 ∧ (Try.f6.name == "runtime.NumGoroutine") = false := ⟨Try.func6, by kernel_rfl⟩
theorem fok7 : Try.prog.funcs[7]? = some Try.f7 ∧ (Try.f7.name == "runtime.NumGoroutine") = false := ⟨Try.func7, by kernel_rfl⟩
theorem fok8 : Try.prog.funcs[8]? = some Try.f8 ∧ (Try.f8.name == "runtime.NumGoroutine") = false := ⟨Try.func8, by kernel_rfl⟩
theorem fok9 : Try.prog.funcs[9]? = some Try.f9 ∧ (Try.f9.name == "runtime.NumGoroutine") = false := ⟨Try.func9, by kernel_rfl⟩
theorem fok10 : Try.prog.funcs[10]? = some Try.f10 ∧ (Try.f10.name == "runtime.NumGoroutine") = false := ⟨Try.func10, by kernel_rfl⟩
theorem fok11 : Try.prog.funcs[11]? = some Try.f11 ∧ (Try.f11.name == "runtime.NumGoroutine") = false := ⟨Try.func11, by kernel_rfl⟩
theorem fok12 : Try.prog.funcs[12]? = some Try.f12 ∧ (Try.f12.name == "runtime.NumGoroutine") = false := ⟨Try.func12, by kernel_rfl⟩
theorem fok13 : Try.prog.funcs[13]? = some Try.f13 ∧ (Try.f13.name == "runtime.NumGoroutine") = false := ⟨Try.func13, by kernel_rfl⟩
theorem fok14 : Try.prog.funcs[14]? = some Try.f14 ∧ (Try.f14.name == "runtime.NumGoroutine") = false := ⟨Try.func14, by kernel_rfl⟩
theorem fok15 : Try.prog.funcs[15]? = some Try.f15 ∧ (Try.f15.name == "runtime.NumGoroutine") = false := ⟨Try.func15, by kernel_rfl⟩
theorem fok16 : Try.prog.funcs[16]? = some Try.f16 ∧ (Try.f16.name == "runtime.NumGoroutine") = false := ⟨Try.func16, by kernel_rfl⟩
theorem fok17 : Try.prog.funcs[17]? = some Try.f17 ∧ (Try.f17.name == "runtime.NumGoroutine") = false := ⟨Try.func17, by kernel_rfl⟩
theorem fok18 : Try.prog.funcs[18]? = some Try.f18 ∧ (Try.f18.name == "runtime.NumGoroutine") = false := ⟨Try.func18, by kernel_rfl⟩
theorem fok19 : Try.prog.funcs[19]? = some Try.f19 ∧ (Try.f19.name == "runtime.NumGoroutine") = false := ⟨Try.func19, by kernel_rfl⟩
theorem fok20 : Try.prog.funcs[20]? = some Try.f20 ∧ (Try.f20.name == "runtime.NumGoroutine") = false := ⟨Try.func20, by kernel_rfl⟩
theorem fok21 : Try.prog.funcs[21]? = some Try.f21 ∧ (Try.f21.name == "runtime.NumGoroutine") = false := ⟨Try.func21, by kernel_rfl⟩
theorem fok22 : Try.prog.funcs[22]? = some Try.f22 ∧ (Try.f22.name == "runtime.NumGoroutine") = false := ⟨Try.func22, by kernel_rfl⟩
theorem fok23 : Try.prog.funcs[23]? = some Try.f23 ∧ (Try.f23.name == "runtime.NumGoroutine") = false := ⟨Try.func23, by kernel_rfl⟩
theorem fok24 : Try.prog.funcs[24]? = some Try.f24 ∧ (Try.f24.name == "runtime.NumGoroutine") = false := ⟨Try.func24, by kernel_rfl⟩
theorem fok25 : Try.prog.funcs[25]? = some Try.f25 ∧ (Try.f25.name == "runtime.NumGoroutine") = false := ⟨Try.func25, by kernel_rfl⟩
theorem fok26 : Try.prog.funcs[26]? = some Try.f26 ∧ (Try.f26.name == "runtime.NumGoroutine") = false := ⟨Try.func26, by kernel_rfl⟩
theorem fok27 : Try.prog.funcs[27]? = some Try.f27 ∧ (Try.f27.name == "runtime.NumGoroutine") = false := ⟨Try.func27, by kernel_rfl⟩
theorem fok28 : Try.prog.funcs[28]? = some Try.f28 ∧ (Try.f28.name == "runtime.NumGoroutine") = false := ⟨Try.func28, by kernel_rfl⟩
theorem fok29 : Try.prog.funcs[29]? = some Try.f29 ∧ (Try.f29.name == "runtime.NumGoroutine") = false := ⟨Try.func29, by kernel_rfl⟩
theorem fok30 : Try.prog.funcs[30]? = some Try.f30 ∧ (Try.f30.name == "runtime.NumGoroutine") = false := ⟨Try.func30, by kernel_rfl⟩
theorem fok31 : Try.prog.funcs[31]? = some Try.f31 ∧ (Try.f31.name == "runtime.NumGoroutine") = false := ⟨Try.func31, by kernel_rfl⟩
theorem fok32 : Try.prog.funcs[32]? = some Try.f32 ∧ (Try.f32.name == "runtime.NumGoroutine") = false := ⟨Try.func32, by kernel_rfl⟩
theorem fok33 : Try.prog.funcs[33]? = some Try.f33 ∧ (Try.f33.name == "runtime.NumGoroutine") = false := ⟨Try.func33, by kernel_rfl⟩
theorem fok34 : Try.prog.funcs[34]? = some Try.f34 ∧ (Try.f34.name == "runtime.NumGoroutine") = false := ⟨Try.func34, by kernel_rfl⟩
theorem fok35 : Try.prog.funcs[35]? = some Try.f35 ∧ (Try.f35.name == "runtime.NumGoroutine") = false := ⟨Try.func35, by kernel_rfl⟩
theorem fok36 : Try.prog.funcs[36]? = some Try.f36 ∧ (Try.f36.name == "runtime.NumGoroutine") = false := ⟨Try.func36, by kernel_rfl⟩
theorem fok37 : Try.prog.funcs[37]? = some Try.f37 ∧ (Try.f37.name == "runtime.NumGoroutine") = false := ⟨Try.func37, by kernel_rfl⟩
theorem fok38 : Try.prog.funcs[38]? = some Try.f38 ∧ (Try.f38.name == "runtime.NumGoroutine") = false := ⟨Try.func38, by kernel_rfl⟩
theorem fok39 : Try.prog.funcs[39]? = some Try.f39 ∧ (Try.f39.name == "runtime.NumGoroutine") = false := ⟨Try.func39, by kernel_rfl⟩
theorem fok40 : Try.prog.funcs[40]? = some Try.f40 ∧ (Try.f40.name == "runtime.NumGoroutine") = false := ⟨Try.func40, by kernel_rfl⟩
theorem fok41 : Try.prog.funcs[41]? = some Try.f41 ∧ (Try.f41.name == "runtime.NumGoroutine") = false := ⟨Try.func41, by kernel_rfl⟩
theorem fok42 : Try.prog.funcs[42]? = some Try.f42 ∧ (Try.f42.name == "runtime.NumGoroutine") = false := ⟨Try.func42, by kernel_rfl⟩
theorem fok43 : Try.prog.funcs[43]? = some Try.f43 ∧ (Try.f43.name == "runtime.NumGoroutine") = false := ⟨Try.func43, by kernel_rfl⟩
theorem fok44 : Try.prog.funcs[44]? = some Try.f44 ∧ (Try.f44.name == "runtime.NumGoroutine") = false := ⟨Try.func44, by kernel_rfl⟩
theorem fok45 : Try.prog.funcs[45]? = some Try.f45 ∧ (Try.f45.name == "runtime.NumGoroutine") = false := ⟨Try.func45, by kernel_rfl⟩
theorem fok46 : Try.prog.funcs[46]? = some Try.f46 ∧ (Try.f46.name == "runtime.NumGoroutine") = false := ⟨Try.func46, by kernel_rfl⟩
theorem fok47 : Try.prog.funcs[47]? = some Try.f47 ∧ (Try.f47.name == "runtime.NumGoroutine") = false := ⟨Try.func47, by kernel_rfl⟩
theorem fok48 : Try.prog.funcs[48]? = some Try.f48 ∧ (Try.f48.name == "runtime.NumGoroutine") = false := ⟨Try.func48, by kernel_rfl⟩
theorem fok49 : Try.prog.funcs[49]? = some Try.f49 ∧ (Try.f49.name == "runtime.NumGoroutine") = false := ⟨Try.func49, by kernel_rfl⟩
theorem fok50 : Try.prog.funcs[50]? = some Try.f50 ∧ (Try.f50.name == "runtime.NumGoroutine") = false := ⟨Try.func50, by kernel_rfl⟩
theorem fok51 : Try.prog.funcs[51]? = some Try.f51 ∧ (Try.f51.name == "runtime.NumGoroutine") = false := ⟨Try.func51, by kernel_rfl⟩
theorem fok52 : Try.prog.funcs[52]? = some Try.f52 ∧ (Try.f52.name == "runtime.NumGoroutine") = false := ⟨Try.func52, by kernel_rfl⟩
theorem fok53 : Try.prog.funcs[53]? = some Try.f53 ∧ (Try.f53.name == "runtime.NumGoroutine") = false := ⟨Try.func53, by kernel_rfl⟩
theorem fok54 : Try.prog.funcs[54]? = some Try.f54 ∧ (Try.f54.name == "runtime.NumGoroutine") = false := ⟨Try.func54, by kernel_rfl⟩
theorem fok55 : Try.prog.funcs[55]? = some Try.f55 ∧ (Try.f55.name == "runtime.NumGoroutine") = false := ⟨Try.func55, by kernel_rfl⟩
theorem fok56 : Try.prog.funcs[56]? = some Try.f56 ∧ (Try.f56.name == "runtime.NumGoroutine") = false := ⟨Try.func56, by kernel_rfl⟩
theorem fok57 : Try.prog.funcs[57]? = some Try.f57 ∧ (Try.f57.name == "runtime.NumGoroutine") = false := ⟨Try.func57, by kernel_rfl⟩
theorem fok58 : Try.prog.funcs[58]? = some Try.f58 ∧ (Try.f58.name == "runtime.NumGoroutine") = false := ⟨Try.func58, by kernel_rfl⟩
theorem fok59 : Try.prog.funcs[59]? = some Try.f59 ∧ (Try.f59.name == "runtime.NumGoroutine") = false := ⟨Try.func59, by kernel_rfl⟩
theorem fok60 : Try.prog.funcs[60]? = some Try.f60 ∧ (Try.f60.name == "runtime.NumGoroutine") = false := ⟨Try.func60, by kernel_rfl⟩
theorem fok61 : Try.prog.funcs[61]? = some Try.f61 ∧ (Try.f61.name == "runtime.NumGoroutine") = false := ⟨Try.func61, by kernel_rfl⟩
theorem fok62 : Try.prog.funcs[62]? = some Try.f62 ∧ (Try.f62.name == "runtime.NumGoroutine") = false := ⟨Try.func62, by kernel_rfl⟩
theorem fok63 : Try.prog.funcs[63]? = some Try.f63 ∧ (Try.f63.name == "runtime.NumGoroutine") = false := ⟨Try.func63, by kernel_rfl⟩
theorem fok64 : Try.prog.funcs[64]? = some Try.f64 ∧ (Try.f64.name == "runtime.NumGoroutine") = false := ⟨Try.func64, by kernel_rfl⟩
theorem fok65 : Try.prog.funcs[65]? = some Try.f65 ∧ (Try.f65.name == "runtime.NumGoroutine") = false := ⟨Try.func65, by kernel_rfl⟩
theorem fok66 : Try.prog.funcs[66]? = some Try.f66 ∧ (Try.f66.name == "runtime.NumGoroutine") = false := ⟨Try.func66, by kernel_rfl⟩
theorem fok67 : Try.prog.funcs[67]? = some Try.f67 ∧ (Try.f67.name == "runtime.NumGoroutine") = false := ⟨Try.func67, by kernel_rfl⟩
theorem fok68 : Try.prog.funcs[68]? = some Try.f68 ∧ (Try.f68.name == "runtime.NumGoroutine") = false := ⟨Try.func68, by kernel_rfl⟩
theorem fok69 : Try.prog.funcs[69]? = some Try.f69 ∧ (Try.f69.name == "runtime.NumGoroutine") = false := ⟨Try.func69, by kernel_rfl⟩
theorem fok70 : Try.prog.funcs[70]? = some Try.f70 ∧ (Try.f70.name == "runtime.NumGoroutine") = false := ⟨Try.func70, by kernel_rfl⟩
theorem fok71 : Try.prog.funcs[71]? = some Try.f71 ∧ (Try.f71.name == "runtime.NumGoroutine") = false := ⟨Try.func71, by kernel_rfl⟩
theorem fok72 : Try.prog.funcs[72]? = some Try.f72 ∧ (Try.f72.name == "runtime.NumGoroutine") = false := ⟨Try.func72, by kernel_rfl⟩
theorem fok73 : Try.prog.funcs[73]? = some Try.f73 ∧ (Try.f73.name == "runtime.NumGoroutine") = false := ⟨Try.func73, by kernel_rfl⟩
theorem fok74 : Try.prog.funcs[74]? = some Try.f74 ∧ (Try.f74.name == "runtime.NumGoroutine") = false := ⟨Try.func74, by kernel_rfl⟩
theorem fok75 : Try.prog.funcs[75]? = some Try.f75 ∧ (Try.f75.name == "runtime.NumGoroutine") = false := ⟨Try.func75, by kernel_rfl⟩
theorem fok76 : Try.prog.funcs[76]? = some Try.f76 ∧ (Try.f76.name == "runtime.NumGoroutine") = false := ⟨Try.func76, by kernel_rfl⟩
theorem fok77 : Try.prog.funcs[77]? = some Try.f77 ∧ (Try.f77.name == "runtime.NumGoroutine") = false := ⟨Try.func77, by kernel_rfl⟩
theorem fok78 : Try.prog.funcs[78]? = some Try.f78 ∧ (Try.f78.name == "runtime.NumGoroutine") = false := ⟨Try.func78, by kernel_rfl⟩
theorem fok79 : Try.prog.funcs[79]? = some Try.f79 ∧ (Try.f79.name == "runtime.NumGoroutine") = false := ⟨Try.func79, by kernel_rfl⟩
theorem fok80 : Try.prog.funcs[80]? = some Try.f80 ∧ (Try.f80.name == "runtime.NumGoroutine") = false := ⟨Try.func80, by kernel_rfl⟩
theorem fok81 : Try.prog.funcs[81]? = some Try.f81 ∧ (Try.f81.name == "runtime.NumGoroutine") = false := ⟨Try.func81, by kernel_rfl⟩
theorem fok82 : Try.prog.funcs[82]? = some Try.f82 ∧ (Try.f82.name == "runtime.NumGoroutine") = false := ⟨Try.func82, by kernel_rfl⟩
theorem fok83 : Try.prog.funcs[83]? = some Try.f83 ∧ (Try.f83.name == "runtime.NumGoroutine") = false := ⟨Try.func83, by kernel_rfl⟩
theorem fok84 : Try.prog.funcs[84]? = some Try.f84 ∧ (Try.f84.name == "runtime.NumGoroutine") = false := ⟨Try.func84, by kernel_rfl⟩
theorem fok85 : Try.prog.funcs[85]? = some Try.f85 ∧ (Try.f85.name == "runtime.NumGoroutine") = false := ⟨Try.func85, by kernel_rfl⟩
theorem fok86 : Try.prog.funcs[86]? = some Try.f86 ∧ (Try.f86.name == "runtime.NumGoroutine") = false := ⟨Try.func86, by kernel_rfl⟩
theorem fok87 : Try.prog.funcs[87]? = some Try.f87 ∧ (Try.f87.name == "runtime.NumGoroutine") = false := ⟨Try.func87, by kernel_rfl⟩
theorem fok88 : Try.prog.funcs[88]? = some Try.f88 ∧ (Try.f88.name == "runtime.NumGoroutine") = false := ⟨Try.func88, by kernel_rfl⟩
theorem fok89 : Try.prog.funcs[89]? = some Try.f89 ∧ (Try.f89.name == "runtime.NumGoroutine") = false := ⟨Try.func89, by kernel_rfl⟩
theorem fok90 : Try.prog.funcs[90]? = some Try.f90 ∧ (Try.f90.name == "runtime.NumGoroutine") = false := ⟨Try.func90, by kernel_rfl⟩
theorem fok91 : Try.prog.funcs[91]? = some Try.f91 ∧ (Try.f91.name == "runtime.NumGoroutine") = false := ⟨Try.func91, by kernel_rfl⟩
theorem fok92 : Try.prog.funcs[92]? = some Try.f92 ∧ (Try.f92.name == "runtime.NumGoroutine") = false := ⟨Try.func92, by kernel_rfl⟩
theorem fok93 : Try.prog.funcs[93]? = some Try.f93 ∧ (Try.f93.name == "runtime.NumGoroutine") = false := ⟨Try.func93, by kernel_rfl⟩
theorem fok94 : Try.prog.funcs[94]? = some Try.f94 ∧ (Try.f94.name == "runtime.NumGoroutine") = false := ⟨Try.func94, by kernel_rfl⟩
theorem fok95 : Try.prog.funcs[95]? = some Try.f95 ∧ (Try.f95.name == "runtime.NumGoroutine") = false := ⟨Try.func95, by kernel_rfl⟩
theorem fok96 : Try.prog.funcs[96]? = some Try.f96 ∧ (Try.f96.name == "runtime.NumGoroutine") = false := ⟨Try.func96, by kernel_rfl⟩
theorem fok97 : Try.prog.funcs[97]? = some Try.f97 ∧ (Try.f97.name == "runtime.NumGoroutine") = false := ⟨Try.func97, by kernel_rfl⟩
theorem fok98 : Try.prog.funcs[98]? = some Try.f98 ∧ (Try.f98.name == "runtime.NumGoroutine") = false := ⟨Try.func98, by kernel_rfl⟩
theorem fok99 : Try.prog.funcs[99]? = some Try.f99 ∧ (Try.f99.name == "runtime.NumGoroutine") = false := ⟨Try.func99, by kernel_rfl⟩
theorem fok100 : Try.prog.funcs[100]? = some Try.f100 ∧ (Try.f100.name == "runtime.NumGoroutine") = false := ⟨Try.func100, by kernel_rfl⟩
theorem fok101 : Try.prog.funcs[101]? = some Try.f101 ∧ (Try.f101.name == "runtime.NumGoroutine") = false := ⟨Try.func101, by kernel_rfl⟩
theorem fok102 : Try.prog.funcs[102]? = some Try.f102 ∧ (Try.f102.name == "runtime.NumGoroutine") = false := ⟨Try.func102, by kernel_rfl⟩
theorem fok103 : Try.prog.funcs[103]? = some Try.f103 ∧ (Try.f103.name == "runtime.NumGoroutine") = false := ⟨Try.func103, by kernel_rfl⟩
theorem fok104 : Try.prog.funcs[104]? = some Try.f104 ∧ (Try.f104.name == "runtime.NumGoroutine") = false := ⟨Try.func104, by kernel_rfl⟩
theorem fok105 : Try.prog.funcs[105]? = some Try.f105 ∧ (Try.f105.name == "runtime.NumGoroutine") = false := ⟨Try.func105, by kernel_rfl⟩
theorem fok106 : Try.prog.funcs[106]? = some Try.f106 ∧ (Try.f106.name == "runtime.NumGoroutine") = false := ⟨Try.func106, by kernel_rfl⟩
theorem fok107 : Try.prog.funcs[107]? = some Try.f107 ∧ (Try.f107.name == "runtime.NumGoroutine") = false := ⟨Try.func107, by kernel_rfl⟩
theorem fok108 : Try.prog.funcs[108]? = some Try.f108 ∧ (Try.f108.name == "runtime.NumGoroutine") = false := ⟨Try.func108, by kernel_rfl⟩
theorem fok109 : Try.prog.funcs[109]? = some Try.f109 ∧ (Try.f109.name == "runtime.NumGoroutine") = false := ⟨Try.func109, by kernel_rfl⟩
theorem fok110 : Try.prog.funcs[110]? = some Try.f110 ∧ (Try.f110.name == "runtime.NumGoroutine") = false := ⟨Try.func110, by kernel_rfl⟩
theorem fok111 : Try.prog.funcs[111]? = some Try.f111 ∧ (Try.f111.name == "runtime.NumGoroutine") = false := ⟨Try.func111, by kernel_rfl⟩
theorem fok112 : Try.prog.funcs[112]? = some Try.f112 ∧ (Try.f112.name == "runtime.NumGoroutine") = false := ⟨Try.func112, by kernel_rfl⟩
theorem fok113 : Try.prog.funcs[113]? = some Try.f113 ∧ (Try.f113.name == "runtime.NumGoroutine") = false := ⟨Try.func113, by kernel_rfl⟩
theorem fok114 : Try.prog.funcs[114]? = some Try.f114 ∧ (Try.f114.name == "runtime.NumGoroutine") = false := ⟨Try.func114, by kernel_rfl⟩
theorem fok115 : Try.prog.funcs[115]? = some Try.f115 ∧ (Try.f115.name == "runtime.NumGoroutine") = false := ⟨Try.func115, by kernel_rfl⟩
theorem fok116 : Try.prog.funcs[116]? = some Try.f116 ∧ (Try.f116.name == "runtime.NumGoroutine") = false := ⟨Try.func116, by kernel_rfl⟩
theorem fok117 : Try.prog.funcs[117]? = some Try.f117 ∧ (Try.f117.name == "runtime.NumGoroutine") = false := ⟨Try.func117, by kernel_rfl⟩
theorem fok118 : Try.prog.funcs[118]? = some Try.f118 ∧ (Try.f118.name == "runtime.NumGoroutine") = false := ⟨Try.func118, by kernel_rfl⟩
theorem fok119 : Try.prog.funcs[119]? = some Try.f119 ∧ (Try.f119.name == "runtime.NumGoroutine") = false := ⟨Try.func119, by kernel_rfl⟩
theorem fok120 : Try.prog.funcs[120]? = some Try.f120 ∧ (Try.f120.name == "runtime.NumGoroutine") = false := ⟨Try.func120, by kernel_rfl⟩
theorem fok121 : Try.prog.funcs[121]? = some Try.f121 ∧ (Try.f121.name == "runtime.NumGoroutine") = false := ⟨Try.func121, by kernel_rfl⟩
theorem fok122 : Try.prog.funcs[122]? = some Try.f122 ∧ (Try.f122.name == "runtime.NumGoroutine") = false := ⟨Try.func122, by kernel_rfl⟩
theorem fok123 : Try.prog.funcs[123]? = some Try.f123 ∧ (Try.f123.name == "runtime.NumGoroutine") = false := ⟨Try.func123, by kernel_rfl⟩
theorem fok124 : Try.prog.funcs[124]? = some Try.f124 ∧ (Try.f124.name == "runtime.NumGoroutine") = false := ⟨Try.func124, by kernel_rfl⟩
theorem fok125 : Try.prog.funcs[125]? = some Try.f125 ∧ (Try.f125.name == "runtime.NumGoroutine") = false := ⟨Try.func125, by kernel_rfl⟩
theorem fok126 : Try.prog.funcs[126]? = some Try.f126 ∧ (Try.f126.name == "runtime.NumGoroutine") = false := ⟨Try.func126, by kernel_rfl⟩
theorem fok127 : Try.prog.funcs[127]? = some Try.f127 ∧ (Try.f127.name == "runtime.NumGoroutine") = false := ⟨Try.func127, by kernel_rfl⟩
theorem fok128 : Try.prog.funcs[128]? = some Try.f128 ∧ (Try.f128.name == "runtime.NumGoroutine") = false := ⟨Try.func128, by kernel_rfl⟩
theorem fok129 : Try.prog.funcs[129]? = some Try.f129 ∧ (Try.f129.name == "runtime.NumGoroutine") = false := ⟨Try.func129, by kernel_rfl⟩
theorem fok130 : Try.prog.funcs[130]? = some Try.f130 ∧ (Try.f130.name == "runtime.NumGoroutine") = false := ⟨Try.func130, by kernel_rfl⟩
theorem fok131 : Try.prog.funcs[131]? = some Try.f131 ∧ (Try.f131.name == "runtime.NumGoroutine") = false := ⟨Try.func131, by kernel_rfl⟩
theorem fok132 : Try.prog.funcs[132]? = some Try.f132 ∧ (Try.f132.name == "runtime.NumGoroutine") = false := ⟨Try.func132, by kernel_rfl⟩
theorem fok133 : Try.prog.funcs[133]? = some Try.f133 ∧ (Try.f133.name == "runtime.NumGoroutine") = false := ⟨Try.func133, by kernel_rfl⟩
theorem fok134 : Try.prog.funcs[134]? = some Try.f134 ∧ (Try.f134.name == "runtime.NumGoroutine") = false := ⟨Try.func134, by kernel_rfl⟩
theorem fok135 : Try.prog.funcs[135]? = some Try.f135 ∧ (Try.f135.name == "runtime.NumGoroutine") = false := ⟨Try.func135, by kernel_rfl⟩
theorem fok136 : Try.prog.funcs[136]? = some Try.f136 ∧ (Try.f136.name == "runtime.NumGoroutine") = false := ⟨Try.func136, by kernel_rfl⟩
theorem fok137 : Try.prog.funcs[137]? = some Try.f137 ∧ (Try.f137.name == "runtime.NumGoroutine") = false := ⟨Try.func137, by kernel_rfl⟩
theorem fok138 : Try.prog.funcs[138]? = some Try.f138 ∧ (Try.f138.name == "runtime.NumGoroutine") = false := ⟨Try.func138, by kernel_rfl⟩
theorem fok139 : Try.prog.funcs[139]? = some Try.f139 ∧ (Try.f139.name == "runtime.NumGoroutine") = false := ⟨Try.func139, by kernel_rfl⟩
theorem fok140 : Try.prog.funcs[140]? = some Try.f140 ∧ (Try.f140.name == "runtime.NumGoroutine") = false := ⟨Try.func140, by kernel_rfl⟩
theorem fok141 : Try.prog.funcs[141]? = some Try.f141 ∧ (Try.f141.name == "runtime.NumGoroutine") = false := ⟨Try.func141, by kernel_rfl⟩
theorem fok142 : Try.prog.funcs[142]? = some Try.f142 ∧ (Try.f142.name == "runtime.NumGoroutine") = false := ⟨Try.func142, by kernel_rfl⟩
theorem fok143 : Try.prog.funcs[143]? = some Try.f143 ∧ (Try.f143.name == "runtime.NumGoroutine") = false := ⟨Try.func143, by kernel_rfl⟩
theorem fok144 : Try.prog.funcs[144]? = some Try.f144 ∧ (Try.f144.name == "runtime.NumGoroutine") = false := ⟨Try.func144, by kernel_rfl⟩
theorem fok145 : Try.prog.funcs[145]? = some Try.f145 ∧ (Try.f145.name == "runtime.NumGoroutine") = false := ⟨Try.func145, by kernel_rfl⟩
theorem fok146 : Try.prog.funcs[146]? = some Try.f146 ∧ (Try.f146.name == "runtime.NumGoroutine") = false := ⟨Try.func146, by kernel_rfl⟩
theorem fok147 : Try.prog.funcs[147]? = some Try.f147 ∧ (Try.f147.name == "runtime.NumGoroutine") = false := ⟨Try.func147, by kernel_rfl⟩
theorem fok148 : Try.prog.funcs[148]? = some Try.f148 ∧ (Try.f148.name == "runtime.NumGoroutine") = false := ⟨Try.func148, by kernel_rfl⟩
theorem fok149 : Try.prog.funcs[149]? = some Try.f149 ∧ (Try.f149.name == "runtime.NumGoroutine") = false := ⟨Try.func149, by kernel_rfl⟩
theorem fok150 : Try.prog.funcs[150]? = some Try.f150 ∧ (Try.f150.name == "runtime.NumGoroutine") = false := ⟨Try.func150, by kernel_rfl⟩
theorem fok151 : Try.prog.funcs[151]? = some Try.f151 ∧ (Try.f151.name == "runtime.NumGoroutine") = false := ⟨Try.func151, by kernel_rfl⟩
theorem fok152 : Try.prog.funcs[152]? = some Try.f152 ∧ (Try.f152.name == "runtime.NumGoroutine") = false := ⟨Try.func152, by kernel_rfl⟩
theorem fok153 : Try.prog.funcs[153]? = some Try.f153 ∧ (Try.f153.name == "runtime.NumGoroutine") = false := ⟨Try.func153, by kernel_rfl⟩
theorem fok154 : Try.prog.funcs[154]? = some Try.f154 ∧ (Try.f154.name == "runtime.NumGoroutine") = false := ⟨Try.func154, by kernel_rfl⟩
theorem fok155 : Try.prog.funcs[155]? = some Try.f155 ∧ (Try.f155.name == "runtime.NumGoroutine") = false := ⟨Try.func155, by kernel_rfl⟩
theorem fok156 : Try.prog.funcs[156]? = some Try.f156 ∧ (Try.f156.name == "runtime.NumGoroutine") = false := ⟨Try.func156, by kernel_rfl⟩
theorem fok157 : Try.prog.funcs[157]? = some Try.f157 ∧ (Try.f157.name == "runtime.NumGoroutine") = false := ⟨Try.func157, by kernel_rfl⟩
theorem fok158 : Try.prog.funcs[158]? = some Try.f158 ∧ (Try.f158.name == "runtime.NumGoroutine") = false := ⟨Try.func158, by kernel_rfl⟩
theorem fok159 : Try.prog.funcs[159]? = some Try.f159 ∧ (Try.f159.name == "runtime.NumGoroutine") = false := ⟨Try.func159, by kernel_rfl⟩
theorem fok160 : Try.prog.funcs[160]? = some Try.f160 ∧ (Try.f160.name == "runtime.NumGoroutine") = false := ⟨Try.func160, by kernel_rfl⟩
theorem fok161 : Try.prog.funcs[161]? = some Try.f161 ∧ (Try.f161.name == "runtime.NumGoroutine") = false := ⟨Try.func161, by kernel_rfl⟩
theorem fok162 : Try.prog.funcs[162]? = some Try.f162 ∧ (Try.f162.name == "runtime.NumGoroutine") = false := ⟨Try.func162, by kernel_rfl⟩
theorem fok163 : Try.prog.funcs[163]? = some Try.f163 ∧ (Try.f163.name == "runtime.NumGoroutine") = false := ⟨Try.func163, by kernel_rfl⟩
theorem fok164 : Try.prog.funcs[164]? = some Try.f164 ∧ (Try.f164.name == "runtime.NumGoroutine") = false := ⟨Try.func164, by kernel_rfl⟩
theorem fok165 : Try.prog.funcs[165]? = some Try.f165 ∧ (Try.f165.name == "runtime.NumGoroutine") = false := ⟨Try.func165, by kernel_rfl⟩
theorem fok166 : Try.prog.funcs[166]? = some Try.f166 ∧ (Try.f166.name == "runtime.NumGoroutine") = false := ⟨Try.func166, by kernel_rfl⟩
theorem fok167 : Try.prog.funcs[167]? = some Try.f167 ∧ (Try.f167.name == "runtime.NumGoroutine") = false := ⟨Try.func167, by kernel_rfl⟩
theorem fok168 : Try.prog.funcs[168]? = some Try.f168 ∧ (Try.f168.name == "runtime.NumGoroutine") = false := ⟨Try.func168, by kernel_rfl⟩
theorem fok169 : Try.prog.funcs[169]? = some Try.f169 ∧ (Try.f169.name == "runtime.NumGoroutine") = false := ⟨Try.func169, by kernel_rfl⟩
theorem fok170 : Try.prog.funcs[170]? = some Try.f170 ∧ (Try.f170.name == "runtime.NumGoroutine") = false := ⟨Try.func170, by kernel_rfl⟩
theorem fok171 : Try.prog.funcs[171]? = some Try.f171 ∧ (Try.f171.name == "runtime.NumGoroutine") = false := ⟨Try.func171, by kernel_rfl⟩
theorem fok172 : Try.prog.funcs[172]? = some Try.f172 ∧ (Try.f172.name == "runtime.NumGoroutine") = false := ⟨Try.func172, by kernel_rfl⟩
theorem fok173 : Try.prog.funcs[173]? = some Try.f173 ∧ (Try.f173.name == "runtime.NumGoroutine") = false := ⟨Try.func173, by kernel_rfl⟩
theorem fok174 : Try.prog.funcs[174]? = some Try.f174 ∧ (Try.f174.name == "runtime.NumGoroutine") = false := ⟨Try.func174, by kernel_rfl⟩
theorem fok175 : Try.prog.funcs[175]? = some Try.f175 ∧ (Try.f175.name == "runtime.NumGoroutine") = false := ⟨Try.func175, by kernel_rfl⟩
theorem fok176 : Try.prog.funcs[176]? = some Try.f176 ∧ (Try.f176.name == "runtime.NumGoroutine") = false := ⟨Try.func176, by kernel_rfl⟩
theorem fok177 : Try.prog.funcs[177]? = some Try.f177 ∧ (Try.f177.name == "runtime.NumGoroutine") = false := ⟨Try.func177, by kernel_rfl⟩
theorem fok178 : Try.prog.funcs[178]? = some Try.f178 ∧ (Try.f178.name == "runtime.NumGoroutine") = false := ⟨Try.func178, by kernel_rfl⟩
theorem fok179 : Try.prog.funcs[179]? = some Try.f179 ∧ (Try.f179.name == "runtime.NumGoroutine") = false := ⟨Try.func179, by kernel_rfl⟩
theorem fok180 : Try.prog.funcs[180]? = some Try.f180 ∧ (Try.f180.name == "runtime.NumGoroutine") = false := ⟨Try.func180, by kernel_rfl⟩
theorem fok181 : Try.prog.funcs[181]? = some Try.f181 ∧ (Try.f181.name == "runtime.NumGoroutine") = false := ⟨Try.func181, by kernel_rfl⟩
theorem fok182 : Try.prog.funcs[182]? = some Try.f182 ∧ (Try.f182.name == "runtime.NumGoroutine") = false := ⟨Try.func182, by kernel_rfl⟩
theorem fok183 : Try.prog.funcs[183]? = some Try.f183 ∧ (Try.f183.name == "runtime.NumGoroutine") = false := ⟨Try.func183, by kernel_rfl⟩
theorem fok184 : Try.prog.funcs[184]? = some Try.f184 ∧ (Try.f184.name == "runtime.NumGoroutine") = false := ⟨Try.func184, by kernel_rfl⟩
theorem fok185 : Try.prog.funcs[185]? = some Try.f185 ∧ (Try.f185.name == "runtime.NumGoroutine") = false := ⟨Try.func185, by kernel_rfl⟩
theorem fok186 : Try.prog.funcs[186]? = some Try.f186 ∧ (Try.f186.name == "runtime.NumGoroutine") = false := ⟨Try.func186, by kernel_rfl⟩
theorem fok202 : Try.prog.funcs[202]? = some Try.f202 ∧ (Try.f202.name == "runtime.NumGoroutine") = false := ⟨Try.func202, by kernel_rfl⟩
theorem tyAll : AllNT (fun t i => TyOk Try.prog t i) tyT := ⟨tok128, ⟨tok65, ⟨tok34, ⟨tok19, ⟨tok10, ⟨tok4, ⟨tok2, ⟨tok1, trivial, trivial⟩, ⟨tok3, trivial, trivial⟩⟩, ⟨tok6, ⟨tok5, trivial, trivial⟩, ⟨tok9, trivial, trivial⟩⟩⟩, ⟨tok16, ⟨tok12, ⟨tok11, trivial, trivial⟩, ⟨tok15, trivial, trivial⟩⟩, ⟨tok18, ⟨tok17, trivial, trivial⟩, trivial⟩⟩⟩, ⟨tok27, ⟨tok24, ⟨tok22, ⟨tok21, trivial, trivial⟩, ⟨tok23, trivial, trivial⟩⟩, ⟨tok26, ⟨tok25, trivial, trivial⟩, trivial⟩⟩, ⟨tok31, ⟨tok29, ⟨tok28, trivial, trivial⟩, ⟨tok30, trivial, trivial⟩⟩, ⟨tok33, ⟨tok32, trivial, trivial⟩, trivial⟩⟩⟩⟩, ⟨tok50, ⟨tok42, ⟨tok38, ⟨tok36, ⟨tok35, trivial, trivial⟩, ⟨tok37, trivial, trivial⟩⟩, ⟨tok40, ⟨tok39, trivial, trivial⟩, ⟨tok41, trivial, trivial⟩⟩⟩, ⟨tok46, ⟨tok44, ⟨tok43, trivial, trivial⟩, ⟨tok45, trivial, trivial⟩⟩, ⟨tok49, ⟨tok47, trivial, trivial⟩, trivial⟩⟩⟩, ⟨tok58, ⟨tok54, ⟨tok52, ⟨tok51, trivial, trivial⟩, ⟨tok53, trivial, trivial⟩⟩, ⟨tok56, ⟨tok55, trivial, trivial⟩, trivial⟩⟩, ⟨tok62, ⟨tok60, ⟨tok59, trivial, trivial⟩, ⟨tok61, trivial, trivial⟩⟩, ⟨tok64, ⟨tok63, trivial, trivial⟩, trivial⟩⟩⟩⟩⟩, ⟨tok96, ⟨tok81, ⟨tok73, ⟨tok69, ⟨tok67, ⟨tok66, trivial, trivial⟩, ⟨tok68, trivial, trivial⟩⟩, ⟨tok71, ⟨tok70, trivial, trivial⟩, ⟨tok72, trivial, trivial⟩⟩⟩, ⟨tok77, ⟨tok75, ⟨tok74, trivial, trivial⟩, ⟨tok76, trivial, trivial⟩⟩, ⟨tok80, ⟨tok78, trivial, trivial⟩, trivial⟩⟩⟩, ⟨tok89, ⟨tok85, ⟨tok83, ⟨tok82, trivial, trivial⟩, ⟨tok84, trivial, trivial⟩⟩, ⟨tok87, ⟨tok86, trivial, trivial⟩, trivial⟩⟩, ⟨tok93, ⟨tok91, ⟨tok90, trivial, trivial⟩, ⟨tok92, trivial, trivial⟩⟩, ⟨tok95, ⟨tok94, trivial, trivial⟩, trivial⟩⟩⟩⟩, ⟨tok113, ⟨tok105, ⟨tok101, ⟨tok98, ⟨tok97, trivial, trivial⟩, ⟨tok100, trivial, trivial⟩⟩, ⟨tok103, ⟨tok102, trivial, trivial⟩, ⟨tok104, trivial, trivial⟩⟩⟩, ⟨tok109, ⟨tok107, ⟨tok106, trivial, trivial⟩, ⟨tok108, trivial, trivial⟩⟩, ⟨tok112, ⟨tok111, trivial, trivial⟩, trivial⟩⟩⟩, ⟨tok121, ⟨tok117, ⟨tok115, ⟨tok114, trivial, trivial⟩, ⟨tok116, trivial, trivial⟩⟩, ⟨tok120, ⟨tok118, trivial, trivial⟩, trivial⟩⟩, ⟨tok125, ⟨tok123, ⟨tok122, trivial, trivial⟩, ⟨tok124, trivial, trivial⟩⟩, ⟨tok127, ⟨tok126, trivial, trivial⟩, trivial⟩⟩⟩⟩⟩⟩, ⟨tok187, ⟨tok157, ⟨tok143, ⟨tok136, ⟨tok132, ⟨tok130, ⟨tok129, trivial, trivial⟩, ⟨tok131, trivial, trivial⟩⟩, ⟨tok134, ⟨tok133, trivial, trivial⟩, ⟨tok135, trivial, trivial⟩⟩⟩, ⟨tok140, ⟨tok138, ⟨tok137, trivial, trivial⟩, ⟨tok139, trivial, trivial⟩⟩, ⟨tok142, ⟨tok141, trivial, trivial⟩, trivial⟩⟩⟩, ⟨tok150, ⟨tok147, ⟨tok145, ⟨tok144, trivial, trivial⟩, ⟨tok146, trivial, trivial⟩⟩, ⟨tok149, ⟨tok148, trivial, trivial⟩, trivial⟩⟩, ⟨tok154, ⟨tok152, ⟨tok151, trivial, trivial⟩, ⟨tok153, trivial, trivial⟩⟩, ⟨tok156, ⟨tok155, trivial, trivial⟩, trivial⟩⟩⟩⟩, ⟨tok173, ⟨tok166, ⟨tok162, ⟨tok160, ⟨tok158, trivial, trivial⟩, ⟨tok161, trivial, trivial⟩⟩, ⟨tok164, ⟨tok163, trivial, trivial⟩, ⟨tok165, trivial, trivial⟩⟩⟩, ⟨tok170, ⟨tok168, ⟨tok167, trivial, trivial⟩, ⟨tok169, trivial, trivial⟩⟩, ⟨tok172, ⟨tok171, trivial, trivial⟩, trivial⟩⟩⟩, ⟨tok180, ⟨tok177, ⟨tok175, ⟨tok174, trivial, trivial⟩, ⟨tok176, trivial, trivial⟩⟩, ⟨tok179, ⟨tok178, trivial, trivial⟩, trivial⟩⟩, ⟨tok184, ⟨tok182, ⟨tok181, trivial, trivial⟩, ⟨tok183, trivial, trivial⟩⟩, ⟨tok186, ⟨tok185, trivial, trivial⟩, trivial⟩⟩⟩⟩⟩, ⟨tok217, ⟨tok202, ⟨tok195, ⟨tok191, ⟨tok189, ⟨tok188, trivial, trivial⟩, ⟨tok190, trivial, trivial⟩⟩, ⟨tok193, ⟨tok192, trivial, trivial⟩, ⟨tok194, trivial, trivial⟩⟩⟩, ⟨tok199, ⟨tok197, ⟨tok196, trivial, trivial⟩, ⟨tok198, trivial, trivial⟩⟩, ⟨tok201, ⟨tok200, trivial, trivial⟩, trivial⟩⟩⟩, ⟨tok209, ⟨tok206, ⟨tok204, ⟨tok203, trivial, trivial⟩, ⟨tok205, trivial, trivial⟩⟩, ⟨tok208, ⟨tok207, trivial, trivial⟩, trivial⟩⟩, ⟨tok214, ⟨tok211, ⟨tok210, trivial, trivial⟩, ⟨tok212, trivial, trivial⟩⟩, ⟨tok216, ⟨tok215, trivial, trivial⟩, trivial⟩⟩⟩⟩, ⟨tok231, ⟨tok224, ⟨tok221, ⟨tok219, ⟨tok218, trivial, trivial⟩, ⟨tok220, trivial, trivial⟩⟩, ⟨tok223, ⟨tok222, trivial, trivial⟩, trivial⟩⟩, ⟨tok228, ⟨tok226, ⟨tok225, trivial, trivial⟩, ⟨tok227, trivial, trivial⟩⟩, ⟨tok230, ⟨tok229, trivial, trivial⟩, trivial⟩⟩⟩, ⟨tok242, ⟨tok237, ⟨tok233, ⟨tok232, trivial, trivial⟩, ⟨tok234, trivial, trivial⟩⟩, ⟨tok241, ⟨tok240, trivial, trivial⟩, trivial⟩⟩, ⟨tok246, ⟨tok244, ⟨tok243, trivial, trivial⟩, ⟨tok245, trivial, trivial⟩⟩, ⟨tok248, ⟨tok247, trivial, trivial⟩, trivial⟩⟩⟩⟩⟩⟩⟩
theorem fnAll : AllNT (fun f fn => Try.prog.funcs[f]? = some fn ∧ (fn.name == "runtime.NumGoroutine") = false) fnT := ⟨fok95, ⟨fok49, ⟨fok26, ⟨fok14, ⟨fok8, ⟨fok5, ⟨fok4, ⟨fok3, trivial, trivial⟩, trivial⟩, ⟨fok7, ⟨fok6, trivial, trivial⟩, trivial⟩⟩, ⟨fok11, ⟨fok10, ⟨fok9, trivial, trivial⟩, trivial⟩, ⟨fok13, ⟨fok12, trivial, trivial⟩, trivial⟩⟩⟩, ⟨fok20, ⟨fok17, ⟨fok16, ⟨fok15, trivial, trivial⟩, trivial⟩, ⟨fok19, ⟨fok18, trivial, trivial⟩, trivial⟩⟩, ⟨fok23, ⟨fok22, ⟨fok21, trivial, trivial⟩, trivial⟩, ⟨fok25, ⟨fok24, trivial, trivial⟩, trivial⟩⟩⟩⟩, ⟨fok38, ⟨fok32, ⟨fok29, ⟨fok28, ⟨fok27, trivial, trivial⟩, trivial⟩, ⟨fok31, ⟨fok30, trivial, trivial⟩, trivial⟩⟩, ⟨fok35, ⟨fok34, ⟨fok33, trivial, trivial⟩, trivial⟩, ⟨fok37, ⟨fok36, trivial, trivial⟩, trivial⟩⟩⟩, ⟨fok44, ⟨fok41, ⟨fok40, ⟨fok39, trivial, trivial⟩, trivial⟩, ⟨fok43, ⟨fok42, trivial, trivial⟩, trivial⟩⟩, ⟨fok47, ⟨fok46, ⟨fok45, trivial, trivial⟩, trivial⟩, ⟨fok48, trivial, trivial⟩⟩⟩⟩⟩, ⟨fok72, ⟨fok61, ⟨fok55, ⟨fok52, ⟨fok51, ⟨fok50, trivial, trivial⟩, trivial⟩, ⟨fok54, ⟨fok53, trivial, trivial⟩, trivial⟩⟩, ⟨fok58, ⟨fok57, ⟨fok56, trivial, trivial⟩, trivial⟩, ⟨fok60, ⟨fok59, trivial, trivial⟩, trivial⟩⟩⟩, ⟨fok67, ⟨fok64, ⟨fok63, ⟨fok62, trivial, trivial⟩, trivial⟩, ⟨fok66, ⟨fok65, trivial, trivial⟩, trivial⟩⟩, ⟨fok70, ⟨fok69, ⟨fok68, trivial, trivial⟩, trivial⟩, ⟨fok71, trivial, trivial⟩⟩⟩⟩, ⟨fok84, ⟨fok78, ⟨fok75, ⟨fok74, ⟨fok73, trivial, trivial⟩, trivial⟩, ⟨fok77, ⟨fok76, trivial, trivial⟩, trivial⟩⟩, ⟨fok81, ⟨fok80, ⟨fok79, trivial, trivial⟩, trivial⟩, ⟨fok83, ⟨fok82, trivial, trivial⟩, trivial⟩⟩⟩, ⟨fok90, ⟨fok87, ⟨fok86, ⟨fok85, trivial, trivial⟩, trivial⟩, ⟨fok89, ⟨fok88, trivial, trivial⟩, trivial⟩⟩, ⟨fok93, ⟨fok92, ⟨fok91, trivial, trivial⟩, trivial⟩, ⟨fok94, trivial, trivial⟩⟩⟩⟩⟩⟩, ⟨fok142, ⟨fok119, ⟨fok107, ⟨fok101, ⟨fok98, ⟨fok97, ⟨fok96, trivial, trivial⟩, trivial⟩, ⟨fok100, ⟨fok99, trivial, trivial⟩, trivial⟩⟩, ⟨fok104, ⟨fok103, ⟨fok102, trivial, trivial⟩, trivial⟩, ⟨fok106, ⟨fok105, trivial, trivial⟩, trivial⟩⟩⟩, ⟨fok113, ⟨fok110, ⟨fok109, ⟨fok108, trivial, trivial⟩, trivial⟩, ⟨fok112, ⟨fok111, trivial, trivial⟩, trivial⟩⟩, ⟨fok116, ⟨fok115, ⟨fok114, trivial, trivial⟩, trivial⟩, ⟨fok118, ⟨fok117, trivial, trivial⟩, trivial⟩⟩⟩⟩, ⟨fok131, ⟨fok125, ⟨fok122, ⟨fok121, ⟨fok120, trivial, trivial⟩, trivial⟩, ⟨fok124, ⟨fok123, trivial, trivial⟩, trivial⟩⟩, ⟨fok128, ⟨fok127, ⟨fok126, trivial, trivial⟩, trivial⟩, ⟨fok130, ⟨fok129, trivial, trivial⟩, trivial⟩⟩⟩, ⟨fok137, ⟨fok134, ⟨fok133, ⟨fok132, trivial, trivial⟩, trivial⟩, ⟨fok136, ⟨fok135, trivial, trivial⟩, trivial⟩⟩, ⟨fok140, ⟨fok139, ⟨fok138, trivial, trivial⟩, trivial⟩, ⟨fok141, trivial, trivial⟩⟩⟩⟩⟩, ⟨fok165, ⟨fok154, ⟨fok148, ⟨fok145, ⟨fok144, ⟨fok143, trivial, trivial⟩, trivial⟩, ⟨fok147, ⟨fok146, trivial, trivial⟩, trivial⟩⟩, ⟨fok151, ⟨fok150, ⟨fok149, trivial, trivial⟩, trivial⟩, ⟨fok153, ⟨fok152, trivial, trivial⟩, trivial⟩⟩⟩, ⟨fok160, ⟨fok157, ⟨fok156, ⟨fok155, trivial, trivial⟩, trivial⟩, ⟨fok159, ⟨fok158, trivial, trivial⟩, trivial⟩⟩, ⟨fok163, ⟨fok162, ⟨fok161, trivial, trivial⟩, trivial⟩, ⟨fok164, trivial, trivial⟩⟩⟩⟩, ⟨fok177, ⟨fok171, ⟨fok168, ⟨fok167, ⟨fok166, trivial, trivial⟩, trivial⟩, ⟨fok170, ⟨fok169, trivial, trivial⟩, trivial⟩⟩, ⟨fok174, ⟨fok173, ⟨fok172, trivial, trivial⟩, trivial⟩, ⟨fok176, ⟨fok175, trivial, trivial⟩, trivial⟩⟩⟩, ⟨fok183, ⟨fok180, ⟨fok179, ⟨fok178, trivial, trivial⟩, trivial⟩, ⟨fok182, ⟨fok181, trivial, trivial⟩, trivial⟩⟩, ⟨fok186, ⟨fok185, ⟨fok184, trivial, trivial⟩, trivial⟩, ⟨fok202, trivial, trivial⟩⟩⟩⟩⟩⟩⟩
theorem cfgOk : CfgOk Try.prog cfg := cfgOk_of fnAll tyAll (by kernel_rfl)
theorem codesOk : CodesOk cfg := codesOk_of (by kernel_rfl)
end Go.Proofs.Ytgnpnfkncbnjnaa
namespace Go.Proofs.Ytgnpnfkncbnjnaa
open Go Go.Am
@[go_sem] theorem tget1 : cfg.ty.get 1 = some ty1 := by kernel_rfl
@[go_sem] theorem tget2 : cfg.ty.get 2 = some ty2 := by kernel_rfl
@[go_sem] theorem tget3 : cfg.ty.get 3 = some ty3 := by kernel_rfl
@[go_sem] theorem tget4 : cfg.ty.get 4 = some ty4 := by kernel_rfl
@[go_sem] theorem tget5 : cfg.ty.get 5 = some ty5 := by kernel_rfl
@[go_sem] theorem tget6 : cfg.ty.get 6 = some ty6 := by kernel_rfl
@[go_sem] theorem tget9 : cfg.ty.get 9 = some ty9 := by kernel_rfl
@[go_sem] theorem tget10 : cfg.ty.get 10 = some ty10 := by kernel_rfl
@[go_sem] theorem tget11 : cfg.ty.get 11 = some ty11 := by kernel_rfl
@[go_sem] theorem tget12 : cfg.ty.get 12 = some ty12 := by kernel_rfl
@[go_sem] theorem tget15 : cfg.ty.get 15 = some ty15 := by kernel_rfl
@[go_sem] theorem tget16 : cfg.ty.get 16 = some ty16 := by kernel_rfl
@[go_sem] theorem tget17 : cfg.ty.get 17 = some ty17 := by kernel_rfl
@[go_sem] theorem tget18 : cfg.ty.get 18 = some ty18 := by kernel_rfl
@[go_sem] theorem tget19 : cfg.ty.get 19 = some ty19 := by kernel_rfl
@[go_sem] theorem tget21 : cfg.ty.get 21 = some ty21 := by kernel_rfl
@[go_sem] theorem tget22 : cfg.ty.get 22 = some ty22 := by kernel_rfl
@[go_sem] theorem tget23 : cfg.ty.get 23 = some ty23 := by kernel_rfl
@[go_sem] theorem tget24 : cfg.ty.get 24 = some ty24 := by kernel_rfl
@[go_sem] theorem tget25 : cfg.ty.get 25 = some ty25 := by kernel_rfl
@[go_sem] theorem tget26 : cfg.ty.get 26 = some ty26 := by kernel_rfl
@[go_sem] theorem tget27 : cfg.ty.get 27 = some ty27 := by kernel_rfl
@[go_sem] theorem tget28 : cfg.ty.get 28 = some ty28 := by kernel_rfl
@[go_sem] theorem tget29 : cfg.ty.get 29 = some ty29 := by kernel_rfl
@[go_sem] theorem tget30 : cfg.ty.get 30 = some ty30 := by kernel_rfl
@[go_sem] theorem tget31 : cfg.ty.get 31 = some ty31 := by kernel_rfl
@[go_sem] theorem tget32 : cfg.ty.get 32 = some ty32 := by kernel_rfl
@[go_sem] theorem tget33 : cfg.ty.get 33 = some ty33 := by kernel_rfl
@[go_sem] theorem tget34 : cfg.ty.get 34 = some ty34 := by kernel_rfl
@[go_sem] theorem tget35 : cfg.ty.get 35 = some ty35 := by kernel_rfl
@[go_sem] theorem tget36 : cfg.ty.get 36 = some ty36 := by kernel_rfl
@[go_sem] theorem tget37 : cfg.ty.get 37 = some ty37 := by kernel_rfl
@[go_sem] theorem tget38 : cfg.ty.get 38 = some ty38 := by kernel_rfl
@[go_sem] theorem tget39 : cfg.ty.get 39 = some ty39 := by kernel_rfl
@[go_sem] theorem tget40 : cfg.ty.get 40 = some ty40 := by kernel_rfl
@[go_sem] theorem tget41 : cfg.ty.get 41 = some ty41 := by kernel_rfl
@[go_sem] theorem tget42 : cfg.ty.get 42 = some ty42 := by kernel_rfl
@[go_sem] theorem tget43 : cfg.ty.get 43 = some ty43 := by kernel_rfl
@[go_sem] theorem tget44 : cfg.ty.get 44 = some ty44 := by kernel_rfl
@[go_sem] theorem tget45 : cfg.ty.get 45 = some ty45 := by kernel_rfl
@[go_sem] theorem tget46 : cfg.ty.get 46 = some ty46 := by kernel_rfl
@[go_sem] theorem tget47 : cfg.ty.get 47 = some ty47 := by kernel_rfl
@[go_sem] theorem tget49 : cfg.ty.get 49 = some ty49 := by kernel_rfl
@[go_sem] theorem tget50 : cfg.ty.get 50 = some ty50 := by kernel_rfl
@[go_sem] theorem tget51 : cfg.ty.get 51 = some ty51 := by kernel_rfl
@[go_sem] theorem tget52 : cfg.ty.get 52 = some ty52 := by kernel_rfl
@[go_sem] theorem tget53 : cfg.ty.get 53 = some ty53 := by kernel_rfl
@[go_sem] theorem tget54 : cfg.ty.get 54 = some ty54 := by kernel_rfl
@[go_sem] theorem tget55 : cfg.ty.get 55 = some ty55 := by kernel_rfl
@[go_sem] theorem tget56 : cfg.ty.get 56 = some ty56 := by kernel_rfl
@[go_sem] theorem tget58 : cfg.ty.get 58 = some ty58 := by kernel_rfl
@[go_sem] theorem tget59 : cfg.ty.get 59 = some ty59 := by kernel_rfl
@[go_sem] theorem tget60 : cfg.ty.get 60 = some ty60 := by kernel_rfl
@[go_sem] theorem tget61 : cfg.ty.get 61 = some ty61 := by kernel_rfl
@[go_sem] theorem tget62 : cfg.ty.get 62 = some ty62 := by kernel_rfl
@[go_sem] theorem tget63 : cfg.ty.get 63 = some ty63 := by kernel_rfl
@[go_sem] theorem tget64 : cfg.ty.get 64 = some ty64 := by kernel_rfl
@[go_sem] theorem tget65 : cfg.ty.get 65 = some ty65 := by kernel_rfl
@[go_sem] theorem tget66 : cfg.ty.get 66 = some ty66 := by kernel_rfl
@[go_sem] theorem tget67 : cfg.ty.get 67 = some ty67 := by kernel_rfl
@[go_sem] theorem tget68 : cfg.ty.get 68 = some ty68 := by kernel_rfl
@[go_sem] theorem tget69 : cfg.ty.get 69 = some ty69 := by kernel_rfl
@[go_sem] theorem tget70 : cfg.ty.get 70 = some ty70 := by kernel_rfl
@[go_sem] theorem tget71 : cfg.ty.get 71 = some ty71 := by kernel_rfl
@[go_sem] theorem tget72 : cfg.ty.get 72 = some ty72 := by kernel_rfl
@[go_sem] theorem tget73 : cfg.ty.get 73 = some ty73 := by kernel_rfl
@[go_sem] theorem tget74 : cfg.ty.get 74 = some ty74 := by kernel_rfl
@[go_sem] theorem tget75 : cfg.ty.get 75 = some ty75 := by kernel_rfl
@[go_sem] theorem tget76 : cfg.ty.get 76 = some ty76 := by kernel_rfl
@[go_sem] theorem tget77 : cfg.ty.get 77 = some ty77 := by kernel_rfl
@[go_sem] theorem tget78 : cfg.ty.get 78 = some ty78 := by kernel_rfl
@[go_sem] theorem tget80 : cfg.ty.get 80 = some ty80 := by kernel_rfl
@[go_sem] theorem tget81 : cfg.ty.get 81 = some ty81 := by kernel_rfl
@[go_sem] theorem tget82 : cfg.ty.get 82 = some ty82 := by kernel_rfl
@[go_sem] theorem tget83 : cfg.ty.get 83 = some ty83 := by kernel_rfl
@[go_sem] theorem tget84 : cfg.ty.get 84 = some ty84 := by kernel_rfl
@[go_sem] theorem tget85 : cfg.ty.get 85 = some ty85 := by kernel_rfl
@[go_sem] theorem tget86 : cfg.ty.get 86 = some ty86 := by kernel_rfl
@[go_sem] theorem tget87 : cfg.ty.get 87 = some ty87 := by kernel_rfl
@[go_sem] theorem tget89 : cfg.ty.get 89 = some ty89 := by kernel_rfl
@[go_sem] theorem tget90 : cfg.ty.get 90 = some ty90 := by kernel_rfl
@[go_sem] theorem tget91 : cfg.ty.get 91 = some ty91 := by kernel_rfl
@[go_sem] theorem tget92 : cfg.ty.get 92 = some ty92 := by kernel_rfl
@[go_sem] theorem tget93 : cfg.ty.get 93 = some ty93 := by kernel_rfl
@[go_sem] theorem tget94 : cfg.ty.get 94 = some ty94 := by kernel_rfl
@[go_sem] theorem tget95 : cfg.ty.get 95 = some ty95 := by kernel_rfl
@[go_sem] theorem tget96 : cfg.ty.get 96 = some ty96 := by kernel_rfl
@[go_sem] theorem tget97 : cfg.ty.get 97 = some ty97 := by kernel_rfl
@[go_sem] theorem tget98 : cfg.ty.get 98 = some ty98 := by kernel_rfl
@[go_sem] theorem tget100 : cfg.ty.get 100 = some ty100 := by kernel_rfl
@[go_sem] theorem tget101 : cfg.ty.get 101 = some ty101 := by kernel_rfl
@[go_sem] theorem tget102 : cfg.ty.get 102 = some ty102 := by kernel_rfl
@[go_sem] theorem tget103 : cfg.ty.get 103 = some ty103 := by kernel_rfl
@[go_sem] theorem tget104 : cfg.ty.get 104 = some ty104 := by kernel_rfl
@[go_sem] theorem tget105 : cfg.ty.get 105 = some ty105 := by kernel_rfl
@[go_sem] theorem tget106 : cfg.ty.get 106 = some ty106 := by kernel_rfl
@[go_sem] theorem tget107 : cfg.ty.get 107 = some ty107 := by kernel_rfl
@[go_sem] theorem tget108 : cfg.ty.get 108 = some ty108 := by kernel_rfl
@[go_sem] theorem tget109 : cfg.ty.get 109 = some ty109 := by kernel_rfl
@[go_sem] theorem tget111 : cfg.ty.get 111 = some ty111 := by kernel_rfl
@[go_sem] theorem tget112 : cfg.ty.get 112 = some ty112 := by kernel_rfl
@[go_sem] theorem tget113 : cfg.ty.get 113 = some ty113 := by kernel_rfl
@[go_sem] theorem tget114 : cfg.ty.get 114 = some ty114 := by kernel_rfl
@[go_sem] theorem tget115 : cfg.ty.get 115 = some ty115 := by kernel_rfl
@[go_sem] theorem tget116 : cfg.ty.get 116 = some ty116 := by kernel_rfl
@[go_sem] theorem tget117 : cfg.ty.get 117 = some ty117 := by kernel_rfl
@[go_sem] theorem tget118 : cfg.ty.get 118 = some ty118 := by kernel_rfl
@[go_sem] theorem tget120 : cfg.ty.get 120 = some ty120 := by kernel_rfl
@[go_sem] theorem tget121 : cfg.ty.get 121 = some ty121 := by kernel_rfl
@[go_sem] theorem tget122 : cfg.ty.get 122 = some ty122 := by kernel_rfl
@[go_sem] theorem tget123 : cfg.ty.get 123 = some ty123 := by kernel_rfl
@[go_sem] theorem tget124 : cfg.ty.get 124 = some ty124 := by kernel_rfl
@[go_sem] theorem tget125 : cfg.ty.get 125 = some ty125 := by kernel_rfl
@[go_sem] theorem tget126 : cfg.ty.get 126 = some ty126 := by kernel_rfl
@[go_sem] theorem tget127 : cfg.ty.get 127 = some ty127 := by kernel_rfl
@[go_sem] theorem tget128 : cfg.ty.get 128 = some ty128 := by kernel_rfl
@[go_sem] theorem tget129 : cfg.ty.get 129 = some ty129 := by kernel_rfl
@[go_sem] theorem tget130 : cfg.ty.get 130 = some ty130 := by kernel_rfl
@[go_sem] theorem tget131 : cfg.ty.get 131 = some ty131 := by kernel_rfl
@[go_sem] theorem tget132 : cfg.ty.get 132 = some ty132 := by kernel_rfl
@[go_sem] theorem tget133 : cfg.ty.get 133 = some ty133 := by kernel_rfl
@[go_sem] theorem tget134 : cfg.ty.get 134 = some ty134 := by kernel_rfl
@[go_sem] theorem tget135 : cfg.ty.get 135 = some ty135 := by kernel_rfl
@[go_sem] theorem tget136 : cfg.ty.get 136 = some ty136 := by kernel_rfl
@[go_sem] theorem tget137 : cfg.ty.get 137 = some ty137 := by kernel_rfl
@[go_sem] theorem tget138 : cfg.ty.get 138 = some ty138 := by kernel_rfl
@[go_sem] theorem tget139 : cfg.ty.get 139 = some ty139 := by kernel_rfl
@[go_sem] theorem tget140 : cfg.ty.get 140 = some ty140 := by kernel_rfl
@[go_sem] theorem tget141 : cfg.ty.get 141 = some ty141 := by kernel_rfl
@[go_sem] theorem tget142 : cfg.ty.get 142 = some ty142 := by kernel_rfl
@[go_sem] theorem tget143 : cfg.ty.get 143 = some ty143 := by kernel_rfl
@[go_sem] theorem tget144 : cfg.ty.get 144 = some ty144 := by kernel_rfl
@[go_sem] theorem tget145 : cfg.ty.get 145 = some ty145 := by kernel_rfl
@[go_sem] theorem tget146 : cfg.ty.get 146 = some ty146 := by kernel_rfl
@[go_sem] theorem tget147 : cfg.ty.get 147 = some ty147 := by kernel_rfl
@[go_sem] theorem tget148 : cfg.ty.get 148 = some ty148 := by kernel_rfl
@[go_sem] theorem tget149 : cfg.ty.get 149 = some ty149 := by kernel_rfl
@[go_sem] theorem tget150 : cfg.ty.get 150 = some ty150 := by kernel_rfl
@[go_sem] theorem tget151 : cfg.ty.get 151 = some ty151 := by kernel_rfl
@[go_sem] theorem tget152 : cfg.ty.get 152 = some ty152 := by kernel_rfl
@[go_sem] theorem tget153 : cfg.ty.get 153 = some ty153 := by kernel_rfl
@[go_sem] theorem tget154 : cfg.ty.get 154 = some ty154 := by kernel_rfl
@[go_sem] theorem tget155 : cfg.ty.get 155 = some ty155 := by kernel_rfl
@[go_sem] theorem tget156 : cfg.ty.get 156 = some ty156 := by kernel_rfl
@[go_sem] theorem tget157 : cfg.ty.get 157 = some ty157 := by kernel_rfl
@[go_sem] theorem tget158 : cfg.ty.get 158 = some ty158 := by kernel_rfl
@[go_sem] theorem tget160 : cfg.ty.get 160 = some ty160 := by kernel_rfl
@[go_sem] theorem tget161 : cfg.ty.get 161 = some ty161 := by kernel_rfl
@[go_sem] theorem tget162 : cfg.ty.get 162 = some ty162 := by kernel_rfl
@[go_sem] theorem tget163 : cfg.ty.get 163 = some ty163 := by kernel_rfl
@[go_sem] theorem tget164 : cfg.ty.get 164 = some ty164 := by kernel_rfl
@[go_sem] theorem tget165 : cfg.ty.get 165 = some ty165 := by kernel_rfl
@[go_sem] theorem tget166 : cfg.ty.get 166 = some ty166 := by kernel_rfl
@[go_sem] theorem tget167 : cfg.ty.get 167 = some ty167 := by kernel_rfl
@[go_sem] theorem tget168 : cfg.ty.get 168 = some ty168 := by kernel_rfl
@[go_sem] theorem tget169 : cfg.ty.get 169 = some ty169 := by kernel_rfl
@[go_sem] theorem tget170 : cfg.ty.get 170 = some ty170 := by kernel_rfl
@[go_sem] theorem tget171 : cfg.ty.get 171 = some ty171 := by kernel_rfl
@[go_sem] theorem tget172 : cfg.ty.get 172 = some ty172 := by kernel_rfl
@[go_sem] theorem tget173 : cfg.ty.get 173 = some ty173 := by kernel_rfl
@[go_sem] theorem tget174 : cfg.ty.get 174 = some ty174 := by kernel_rfl
@[go_sem] theorem tget175 : cfg.ty.get 175 = some ty175 := by kernel_rfl
@[go_sem] theorem tget176 : cfg.ty.get 176 = some ty176 := by kernel_rfl
@[go_sem] theorem tget177 : cfg.ty.get 177 = some ty177 := by kernel_rfl
@[go_sem] theorem tget178 : cfg.ty.get 178 = some ty178 := by kernel_rfl
@[go_sem] theorem tget179 : cfg.ty.get 179 = some ty179 := by kernel_rfl
@[go_sem] theorem tget180 : cfg.ty.get 180 = some ty180 := by kernel_rfl
@[go_sem] theorem tget181 : cfg.ty.get 181 = some ty181 := by kernel_rfl
@[go_sem] theorem tget182 : cfg.ty.get 182 = some ty182 := by kernel_rfl
@[go_sem] theorem tget183 : cfg.ty.get 183 = some ty183 := by kernel_rfl
@[go_sem] theorem tget184 : cfg.ty.get 184 = some ty184 := by kernel_rfl
@[go_sem] theorem tget185 : cfg.ty.get 185 = some ty185 := by kernel_rfl
@[go_sem] theorem tget186 : cfg.ty.get 186 = some ty186 := by kernel_rfl
@[go_sem] theorem tget187 : cfg.ty.get 187 = some ty187 := by kernel_rfl
@[go_sem] theorem tget188 : cfg.ty.get 188 = some ty188 := by kernel_rfl
@[go_sem] theorem tget189 : cfg.ty.get 189 = some ty189 := by kernel_rfl
@[go_sem] theorem tget190 : cfg.ty.get 190 = some ty190 := by kernel_rfl
@[go_sem] theorem tget191 : cfg.ty.get 191 = some ty191 := by kernel_rfl
@[go_sem] theorem tget192 : cfg.ty.get 192 = some ty192 := by kernel_rfl
@[go_sem] theorem tget193 : cfg.ty.get 193 = some ty193 := by kernel_rfl
@[go_sem] theorem tget194 : cfg.ty.get 194 = some ty194 := by kernel_rfl
@[go_sem] theorem tget195 : cfg.ty.get 195 = some ty195 := by kernel_rfl
@[go_sem] theorem tget196 : cfg.ty.get 196 = some ty196 := by kernel_rfl
@[go_sem] theorem tget197 : cfg.ty.get 197 = some ty197 := by kernel_rfl
@[go_sem] theorem tget198 : cfg.ty.get 198 = some ty198 := by kernel_rfl
@[go_sem] theorem tget199 : cfg.ty.get 199 = some ty199 := by kernel_rfl
@[go_sem] theorem tget200 : cfg.ty.get 200 = some ty200 := by kernel_rfl
@[go_sem] theorem tget201 : cfg.ty.get 201 = some ty201 := by kernel_rfl
@[go_sem] theorem tget202 : cfg.ty.get 202 = some ty202 := by kernel_rfl
@[go_sem] theorem tget203 : cfg.ty.get 203 = some ty203 := by kernel_rfl
@[go_sem] theorem tget204 : cfg.ty.get 204 = some ty204 := by kernel_rfl
@[go_sem] theorem tget205 : cfg.ty.get 205 = some ty205 := by kernel_rfl
@[go_sem] theorem tget206 : cfg.ty.get 206 = some ty206 := by kernel_rfl
@[go_sem] theorem tget207 : cfg.ty.get 207 = some ty207 := by kernel_rfl
@[go_sem] theorem tget208 : cfg.ty.get 208 = some ty208 := by kernel_rfl
@[go_sem] theorem tget209 : cfg.ty.get 209 = some ty209 := by kernel_rfl
@[go_sem] theorem tget210 : cfg.ty.get 210 = some ty210 := by kernel_rfl
@[go_sem] theorem tget211 : cfg.ty.get 211 = some ty211 := by kernel_rfl
@[go_sem] theorem tget212 : cfg.ty.get 212 = some ty212 := by kernel_rfl
@[go_sem] theorem tget214 : cfg.ty.get 214 = some ty214 := by kernel_rfl
@[go_sem] theorem tget215 : cfg.ty.get 215 = some ty215 := by kernel_rfl
@[go_sem] theorem tget216 : cfg.ty.get 216 = some ty216 := by kernel_rfl
@[go_sem] theorem tget217 : cfg.ty.get 217 = some ty217 := by kernel_rfl
@[go_sem] theorem tget218 : cfg.ty.get 218 = some ty218 := by kernel_rfl
@[go_sem] theorem tget219 : cfg.ty.get 219 = some ty219 := by kernel_rfl
@[go_sem] theorem tget220 : cfg.ty.get 220 = some ty220 := by kernel_rfl
@[go_sem] theorem tget221 : cfg.ty.get 221 = some ty221 := by kernel_rfl
@[go_sem] theorem tget222 : cfg.ty.get 222 = some ty222 := by kernel_rfl
@[go_sem] theorem tget223 : cfg.ty.get 223 = some ty223 := by kernel_rfl
@[go_sem] theorem tget224 : cfg.ty.get 224 = some ty224 := by kernel_rfl
@[go_sem] theorem tget225 : cfg.ty.get 225 = some ty225 := by kernel_rfl
@[go_sem] theorem tget226 : cfg.ty.get 226 = some ty226 := by kernel_rfl
@[go_sem] theorem tget227 : cfg.ty.get 227 = some ty227 := by kernel_rfl
@[go_sem] theorem tget228 : cfg.ty.get 228 = some ty228 := by kernel_rfl
@[go_sem] theorem tget229 : cfg.ty.get 229 = some ty229 := by kernel_rfl
@[go_sem] theorem tget230 : cfg.ty.get 230 = some ty230 := by kernel_rfl
@[go_sem] theorem tget231 : cfg.ty.get 231 = some ty231 := by kernel_rfl
@[go_sem] theorem tget232 : cfg.ty.get 232 = some ty232 := by kernel_rfl
@[go_sem] theorem tget233 : cfg.ty.get 233 = some ty233 := by kernel_rfl
@[go_sem] theorem tget234 : cfg.ty.get 234 = some ty234 := by kernel_rfl
@[go_sem] theorem tget237 : cfg.ty.get 237 = some ty237 := by kernel_rfl
@[go_sem] theorem tget240 : cfg.ty.get 240 = some ty240 := by kernel_rfl
@[go_sem] theorem tget241 : cfg.ty.get 241 = some ty241 := by kernel_rfl
@[go_sem] theorem tget242 : cfg.ty.get 242 = some ty242 := by kernel_rfl
@[go_sem] theorem tget243 : cfg.ty.get 243 = some ty243 := by kernel_rfl
@[go_sem] theorem tget244 : cfg.ty.get 244 = some ty244 := by kernel_rfl
@[go_sem] theorem tget245 : cfg.ty.get 245 = some ty245 := by kernel_rfl
@[go_sem] theorem tget246 : cfg.ty.get 246 = some ty246 := by kernel_rfl
@[go_sem] theorem tget247 : cfg.ty.get 247 = some ty247 := by kernel_rfl
@[go_sem] theorem tget248 : cfg.ty.get 248 = some ty248 := by kernel_rfl
attribute [go_sem] Cfg.desc ty1 ty2 ty3 ty4 ty5 ty6 ty9 ty10 ty11 ty12 ty15 ty16 ty17 ty18 ty19 ty21 ty22 ty23 ty24 ty25 ty26 ty27 ty28 ty29 ty30 ty31 ty32 ty33 ty34 ty35 ty36 ty37 ty38 ty39 ty40 ty41 ty42 ty43 ty44 ty45 ty46 ty47 ty49 ty50 ty51 ty52 ty53 ty54 ty55 ty56 ty58 ty59 ty60 ty61 ty62 ty63 ty64 ty65 ty66 ty67 ty68 ty69 ty70 ty71 ty72 ty73 ty74 ty75 ty76 ty77 ty78 ty80 ty81 ty82 ty83 ty84 ty85 ty86 ty87 ty89 ty90 ty91 ty92 ty93 ty94 ty95 ty96 ty97 ty98 ty100 ty101 ty102 ty103 ty104 ty105 ty106 ty107 ty108 ty109 ty111 ty112 ty113 ty114 ty115 ty116 ty117 ty118 ty120 ty121 ty122 ty123 ty124 ty125 ty126 ty127 ty128 ty129 ty130 ty131 ty132 ty133 ty134 ty135 ty136 ty137 ty138 ty139 ty140 ty141 ty142 ty143 ty144 ty145 ty146 ty147 ty148 ty149 ty150 ty151 ty152 ty153 ty154 ty155 ty156 ty157 ty158 ty160 ty161 ty162 ty163 ty164 ty165 ty166 ty167 ty168 ty169 ty170 ty171 ty172 ty173 ty174 ty175 ty176 ty177 ty178 ty179 ty180 ty181 ty182 ty183 ty184 ty185 ty186 ty187 ty188 ty189 ty190 ty191 ty192 ty193 ty194 ty195 ty196 ty197 ty198 ty199 ty200 ty201 ty202 ty203 ty204 ty205 ty206 ty207 ty208 ty209 ty210 ty211 ty212 ty214 ty215 ty216 ty217 ty218 ty219 ty220 ty221 ty222 ty223 ty224 ty225 ty226 ty227 ty228 ty229 ty230 ty231 ty232 ty233 ty234 ty237 ty240 ty241 ty242 ty243 ty244 ty245 ty246 ty247 ty248
theorem fget13 : cfg.fn.get 13 = some Try.f13 := by kernel_rfl
theorem mget13 : cfg.mode.get 13 = none := by kernel_rfl
theorem fget20 : cfg.fn.get 20 = some Try.f20 := by kernel_rfl
theorem mget20 : cfg.mode.get 20 = some 3 := by kernel_rfl
theorem fget23 : cfg.fn.get 23 = some Try.f23 := by kernel_rfl
theorem mget23 : cfg.mode.get 23 = some 4 := by kernel_rfl
theorem fget24 : cfg.fn.get 24 = some Try.f24 := by kernel_rfl
theorem mget24 : cfg.mode.get 24 = some 4 := by kernel_rfl
theorem fget25 : cfg.fn.get 25 = some Try.f25 := by kernel_rfl
theorem mget25 : cfg.mode.get 25 = some 4 := by kernel_rfl
theorem fget31 : cfg.fn.get 31 = some Try.f31 := by kernel_rfl
theorem mget31 : cfg.mode.get 31 = some 1 := by kernel_rfl
theorem fget44 : cfg.fn.get 44 = some Try.f44 := by kernel_rfl
theorem mget44 : cfg.mode.get 44 = some 4 := by kernel_rfl
theorem fget47 : cfg.fn.get 47 = some Try.f47 := by kernel_rfl
theorem mget47 : cfg.mode.get 47 = some 1 := by kernel_rfl
theorem fget49 : cfg.fn.get 49 = some Try.f49 := by kernel_rfl
theorem mget49 : cfg.mode.get 49 = some 1 := by kernel_rfl
theorem fget50 : cfg.fn.get 50 = some Try.f50 := by kernel_rfl
theorem mget50 : cfg.mode.get 50 = some 1 := by kernel_rfl
theorem fget51 : cfg.fn.get 51 = some Try.f51 := by kernel_rfl
theorem mget51 : cfg.mode.get 51 = some 1 := by kernel_rfl
theorem fget69 : cfg.fn.get 69 = some Try.f69 := by kernel_rfl
theorem mget69 : cfg.mode.get 69 = some 1 := by kernel_rfl
theorem fget70 : cfg.fn.get 70 = some Try.f70 := by kernel_rfl
theorem mget70 : cfg.mode.get 70 = some 4 := by kernel_rfl
theorem fget71 : cfg.fn.get 71 = some Try.f71 := by kernel_rfl
theorem mget71 : cfg.mode.get 71 = some 1 := by kernel_rfl
theorem fget72 : cfg.fn.get 72 = some Try.f72 := by kernel_rfl
theorem mget72 : cfg.mode.get 72 = some 1 := by kernel_rfl
theorem fget75 : cfg.fn.get 75 = some Try.f75 := by kernel_rfl
theorem mget75 : cfg.mode.get 75 = some 1 := by kernel_rfl
theorem fget84 : cfg.fn.get 84 = some Try.f84 := by kernel_rfl
theorem mget84 : cfg.mode.get 84 = some 4 := by kernel_rfl
theorem fget85 : cfg.fn.get 85 = some Try.f85 := by kernel_rfl
theorem mget85 : cfg.mode.get 85 = some 4 := by kernel_rfl
theorem fget87 : cfg.fn.get 87 = some Try.f87 := by kernel_rfl
theorem mget87 : cfg.mode.get 87 = some 4 := by kernel_rfl
theorem fget88 : cfg.fn.get 88 = some Try.f88 := by kernel_rfl
theorem mget88 : cfg.mode.get 88 = some 4 := by kernel_rfl
theorem fget95 : cfg.fn.get 95 = some Try.f95 := by kernel_rfl
theorem mget95 : cfg.mode.get 95 = some 1 := by kernel_rfl
theorem fget96 : cfg.fn.get 96 = some Try.f96 := by kernel_rfl
theorem mget96 : cfg.mode.get 96 = some 3 := by kernel_rfl
theorem fget97 : cfg.fn.get 97 = some Try.f97 := by kernel_rfl
theorem mget97 : cfg.mode.get 97 = some 3 := by kernel_rfl
theorem fget100 : cfg.fn.get 100 = some Try.f100 := by kernel_rfl
theorem mget100 : cfg.mode.get 100 = some 1 := by kernel_rfl
theorem fget104 : cfg.fn.get 104 = some Try.f104 := by kernel_rfl
theorem mget104 : cfg.mode.get 104 = some 3 := by kernel_rfl
theorem fget105 : cfg.fn.get 105 = some Try.f105 := by kernel_rfl
theorem mget105 : cfg.mode.get 105 = some 1 := by kernel_rfl
theorem fget106 : cfg.fn.get 106 = some Try.f106 := by kernel_rfl
theorem mget106 : cfg.mode.get 106 = some 1 := by kernel_rfl
theorem fget107 : cfg.fn.get 107 = some Try.f107 := by kernel_rfl
theorem mget107 : cfg.mode.get 107 = some 3 := by kernel_rfl
theorem fget108 : cfg.fn.get 108 = some Try.f108 := by kernel_rfl
theorem mget108 : cfg.mode.get 108 = some 3 := by kernel_rfl
theorem fget109 : cfg.fn.get 109 = some Try.f109 := by kernel_rfl
theorem mget109 : cfg.mode.get 109 = some 3 := by kernel_rfl
theorem fget110 : cfg.fn.get 110 = some Try.f110 := by kernel_rfl
theorem mget110 : cfg.mode.get 110 = some 3 := by kernel_rfl
theorem fget111 : cfg.fn.get 111 = some Try.f111 := by kernel_rfl
theorem mget111 : cfg.mode.get 111 = none := by kernel_rfl
theorem fget112 : cfg.fn.get 112 = some Try.f112 := by kernel_rfl
theorem mget112 : cfg.mode.get 112 = none := by kernel_rfl
theorem fget113 : cfg.fn.get 113 = some Try.f113 := by kernel_rfl
theorem mget113 : cfg.mode.get 113 = some 1 := by kernel_rfl
theorem fget114 : cfg.fn.get 114 = some Try.f114 := by kernel_rfl
theorem mget114 : cfg.mode.get 114 = none := by kernel_rfl
theorem fget115 : cfg.fn.get 115 = some Try.f115 := by kernel_rfl
theorem mget115 : cfg.mode.get 115 = none := by kernel_rfl
theorem fget116 : cfg.fn.get 116 = some Try.f116 := by kernel_rfl
theorem mget116 : cfg.mode.get 116 = none := by kernel_rfl
theorem fget117 : cfg.fn.get 117 = some Try.f117 := by kernel_rfl
theorem mget117 : cfg.mode.get 117 = none := by kernel_rfl
theorem fget118 : cfg.fn.get 118 = some Try.f118 := by kernel_rfl
theorem mget118 : cfg.mode.get 118 = some 3 := by kernel_rfl
theorem fget119 : cfg.fn.get 119 = some Try.f119 := by kernel_rfl
theorem mget119 : cfg.mode.get 119 = some 1 := by kernel_rfl
theorem fget120 : cfg.fn.get 120 = some Try.f120 := by kernel_rfl
theorem mget120 : cfg.mode.get 120 = some 1 := by kernel_rfl
theorem fget121 : cfg.fn.get 121 = some Try.f121 := by kernel_rfl
theorem mget121 : cfg.mode.get 121 = some 1 := by kernel_rfl
theorem fget122 : cfg.fn.get 122 = some Try.f122 := by kernel_rfl
theorem mget122 : cfg.mode.get 122 = some 1 := by kernel_rfl
theorem fget127 : cfg.fn.get 127 = some Try.f127 := by kernel_rfl
theorem mget127 : cfg.mode.get 127 = some 1 := by kernel_rfl
theorem fget130 : cfg.fn.get 130 = some Try.f130 := by kernel_rfl
theorem mget130 : cfg.mode.get 130 = some 1 := by kernel_rfl
theorem fget133 : cfg.fn.get 133 = some Try.f133 := by kernel_rfl
theorem mget133 : cfg.mode.get 133 = some 1 := by kernel_rfl
theorem fget134 : cfg.fn.get 134 = some Try.f134 := by kernel_rfl
theorem mget134 : cfg.mode.get 134 = some 1 := by kernel_rfl
theorem fget146 : cfg.fn.get 146 = some Try.f146 := by kernel_rfl
theorem mget146 : cfg.mode.get 146 = some 3 := by kernel_rfl
theorem fget147 : cfg.fn.get 147 = some Try.f147 := by kernel_rfl
theorem mget147 : cfg.mode.get 147 = some 3 := by kernel_rfl
theorem fget148 : cfg.fn.get 148 = some Try.f148 := by kernel_rfl
theorem mget148 : cfg.mode.get 148 = some 3 := by kernel_rfl
theorem fget149 : cfg.fn.get 149 = some Try.f149 := by kernel_rfl
theorem mget149 : cfg.mode.get 149 = some 3 := by kernel_rfl
theorem fget150 : cfg.fn.get 150 = some Try.f150 := by kernel_rfl
theorem mget150 : cfg.mode.get 150 = some 3 := by kernel_rfl
theorem fget151 : cfg.fn.get 151 = some Try.f151 := by kernel_rfl
theorem mget151 : cfg.mode.get 151 = some 3 := by kernel_rfl
theorem fget153 : cfg.fn.get 153 = some Try.f153 := by kernel_rfl
theorem mget153 : cfg.mode.get 153 = some 3 := by kernel_rfl
theorem fget154 : cfg.fn.get 154 = some Try.f154 := by kernel_rfl
theorem mget154 : cfg.mode.get 154 = some 3 := by kernel_rfl
theorem fget155 : cfg.fn.get 155 = some Try.f155 := by kernel_rfl
theorem mget155 : cfg.mode.get 155 = some 3 := by kernel_rfl
theorem fget156 : cfg.fn.get 156 = some Try.f156 := by kernel_rfl
theorem mget156 : cfg.mode.get 156 = some 3 := by kernel_rfl
theorem fget157 : cfg.fn.get 157 = some Try.f157 := by kernel_rfl
theorem mget157 : cfg.mode.get 157 = some 3 := by kernel_rfl
theorem fget158 : cfg.fn.get 158 = some Try.f158 := by kernel_rfl
theorem mget158 : cfg.mode.get 158 = some 1 := by kernel_rfl
theorem fget159 : cfg.fn.get 159 = some Try.f159 := by kernel_rfl
theorem mget159 : cfg.mode.get 159 = some 1 := by kernel_rfl
theorem fget160 : cfg.fn.get 160 = some Try.f160 := by kernel_rfl
theorem mget160 : cfg.mode.get 160 = some 1 := by kernel_rfl
theorem fget161 : cfg.fn.get 161 = some Try.f161 := by kernel_rfl
theorem mget161 : cfg.mode.get 161 = some 1 := by kernel_rfl
theorem fget162 : cfg.fn.get 162 = some Try.f162 := by kernel_rfl
theorem mget162 : cfg.mode.get 162 = some 1 := by kernel_rfl
theorem fget163 : cfg.fn.get 163 = some Try.f163 := by kernel_rfl
theorem mget163 : cfg.mode.get 163 = some 1 := by kernel_rfl
theorem fget166 : cfg.fn.get 166 = some Try.f166 := by kernel_rfl
theorem mget166 : cfg.mode.get 166 = some 3 := by kernel_rfl
theorem fget167 : cfg.fn.get 167 = some Try.f167 := by kernel_rfl
theorem mget167 : cfg.mode.get 167 = some 3 := by kernel_rfl
theorem fget168 : cfg.fn.get 168 = some Try.f168 := by kernel_rfl
theorem mget168 : cfg.mode.get 168 = some 3 := by kernel_rfl
theorem fget169 : cfg.fn.get 169 = some Try.f169 := by kernel_rfl
theorem mget169 : cfg.mode.get 169 = some 3 := by kernel_rfl
theorem fget170 : cfg.fn.get 170 = some Try.f170 := by kernel_rfl
theorem mget170 : cfg.mode.get 170 = some 3 := by kernel_rfl
theorem fget171 : cfg.fn.get 171 = some Try.f171 := by kernel_rfl
theorem mget171 : cfg.mode.get 171 = none := by kernel_rfl
theorem fget178 : cfg.fn.get 178 = some Try.f178 := by kernel_rfl
theorem mget178 : cfg.mode.get 178 = some 1 := by kernel_rfl
theorem fget179 : cfg.fn.get 179 = some Try.f179 := by kernel_rfl
theorem mget179 : cfg.mode.get 179 = some 1 := by kernel_rfl
theorem fget180 : cfg.fn.get 180 = some Try.f180 := by kernel_rfl
theorem mget180 : cfg.mode.get 180 = none := by kernel_rfl
theorem fget181 : cfg.fn.get 181 = some Try.f181 := by kernel_rfl
theorem mget181 : cfg.mode.get 181 = some 1 := by kernel_rfl
theorem fget182 : cfg.fn.get 182 = some Try.f182 := by kernel_rfl
theorem mget182 : cfg.mode.get 182 = some 1 := by kernel_rfl
theorem fget183 : cfg.fn.get 183 = some Try.f183 := by kernel_rfl
theorem mget183 : cfg.mode.get 183 = some 1 := by kernel_rfl
theorem fget184 : cfg.fn.get 184 = some Try.f184 := by kernel_rfl
theorem mget184 : cfg.mode.get 184 = some 1 := by kernel_rfl
@[go_sem] theorem zget3 : (cfg.at 3).cur = some [] := by kernel_rfl
@[go_sem] theorem zget4 : (cfg.at 4).cur = some [] := by kernel_rfl
@[go_sem] theorem zget5 : (cfg.at 5).cur = some [] := by kernel_rfl
@[go_sem] theorem zget6 : (cfg.at 6).cur = some [] := by kernel_rfl
@[go_sem] theorem zget7 : (cfg.at 7).cur = some [] := by kernel_rfl
@[go_sem] theorem zget8 : (cfg.at 8).cur = some [] := by kernel_rfl
@[go_sem] theorem zget9 : (cfg.at 9).cur = some [] := by kernel_rfl
@[go_sem] theorem zget10 : (cfg.at 10).cur = some [] := by kernel_rfl
@[go_sem] theorem zget11 : (cfg.at 11).cur = some [] := by kernel_rfl
@[go_sem] theorem zget12 : (cfg.at 12).cur = some [] := by kernel_rfl
@[go_sem] theorem zget13 : (cfg.at 13).cur = some [] := by kernel_rfl
@[go_sem] theorem zget14 : (cfg.at 14).cur = some [] := by kernel_rfl
@[go_sem] theorem zget15 : (cfg.at 15).cur = some [] := by kernel_rfl
@[go_sem] theorem zget16 : (cfg.at 16).cur = some [] := by kernel_rfl
@[go_sem] theorem zget17 : (cfg.at 17).cur = some [] := by kernel_rfl
@[go_sem] theorem zget18 : (cfg.at 18).cur = some [] := by kernel_rfl
@[go_sem] theorem zget19 : (cfg.at 19).cur = some [] := by kernel_rfl
@[go_sem] theorem zget20 : (cfg.at 20).cur = some [] := by kernel_rfl
@[go_sem] theorem zget21 : (cfg.at 21).cur = some [] := by kernel_rfl
@[go_sem] theorem zget22 : (cfg.at 22).cur = some [] := by kernel_rfl
@[go_sem] theorem zget23 : (cfg.at 23).cur = some [] := by kernel_rfl
@[go_sem] theorem zget24 : (cfg.at 24).cur = some [] := by kernel_rfl
@[go_sem] theorem zget25 : (cfg.at 25).cur = some [] := by kernel_rfl
@[go_sem] theorem zget26 : (cfg.at 26).cur = some [] := by kernel_rfl
@[go_sem] theorem zget27 : (cfg.at 27).cur = some [] := by kernel_rfl
@[go_sem] theorem zget28 : (cfg.at 28).cur = some [] := by kernel_rfl
@[go_sem] theorem zget29 : (cfg.at 29).cur = some [] := by kernel_rfl
@[go_sem] theorem zget30 : (cfg.at 30).cur = some [6, 24, 29, 33, 37, 41] := by kernel_rfl
@[go_sem] theorem zget31 : (cfg.at 31).cur = some [] := by kernel_rfl
@[go_sem] theorem zget32 : (cfg.at 32).cur = some [] := by kernel_rfl
@[go_sem] theorem zget33 : (cfg.at 33).cur = some [] := by kernel_rfl
@[go_sem] theorem zget34 : (cfg.at 34).cur = some [] := by kernel_rfl
@[go_sem] theorem zget35 : (cfg.at 35).cur = some [] := by kernel_rfl
@[go_sem] theorem zget36 : (cfg.at 36).cur = some [] := by kernel_rfl
@[go_sem] theorem zget37 : (cfg.at 37).cur = some [] := by kernel_rfl
@[go_sem] theorem zget38 : (cfg.at 38).cur = some [] := by kernel_rfl
@[go_sem] theorem zget39 : (cfg.at 39).cur = some [] := by kernel_rfl
@[go_sem] theorem zget40 : (cfg.at 40).cur = some [] := by kernel_rfl
@[go_sem] theorem zget41 : (cfg.at 41).cur = some [] := by kernel_rfl
@[go_sem] theorem zget42 : (cfg.at 42).cur = some [] := by kernel_rfl
@[go_sem] theorem zget43 : (cfg.at 43).cur = some [] := by kernel_rfl
@[go_sem] theorem zget44 : (cfg.at 44).cur = some [] := by kernel_rfl
@[go_sem] theorem zget45 : (cfg.at 45).cur = some [] := by kernel_rfl
@[go_sem] theorem zget46 : (cfg.at 46).cur = some [] := by kernel_rfl
@[go_sem] theorem zget47 : (cfg.at 47).cur = some [] := by kernel_rfl
@[go_sem] theorem zget48 : (cfg.at 48).cur = some [] := by kernel_rfl
@[go_sem] theorem zget49 : (cfg.at 49).cur = some [] := by kernel_rfl
@[go_sem] theorem zget50 : (cfg.at 50).cur = some [] := by kernel_rfl
@[go_sem] theorem zget51 : (cfg.at 51).cur = some [] := by kernel_rfl
@[go_sem] theorem zget52 : (cfg.at 52).cur = some [] := by kernel_rfl
@[go_sem] theorem zget53 : (cfg.at 53).cur = some [] := by kernel_rfl
@[go_sem] theorem zget54 : (cfg.at 54).cur = some [] := by kernel_rfl
@[go_sem] theorem zget55 : (cfg.at 55).cur = some [] := by kernel_rfl
@[go_sem] theorem zget56 : (cfg.at 56).cur = some [] := by kernel_rfl
@[go_sem] theorem zget57 : (cfg.at 57).cur = some [] := by kernel_rfl
@[go_sem] theorem zget58 : (cfg.at 58).cur = some [] := by kernel_rfl
@[go_sem] theorem zget59 : (cfg.at 59).cur = some [] := by kernel_rfl
@[go_sem] theorem zget60 : (cfg.at 60).cur = some [] := by kernel_rfl
@[go_sem] theorem zget61 : (cfg.at 61).cur = some [] := by kernel_rfl
@[go_sem] theorem zget62 : (cfg.at 62).cur = some [] := by kernel_rfl
@[go_sem] theorem zget63 : (cfg.at 63).cur = some [] := by kernel_rfl
@[go_sem] theorem zget64 : (cfg.at 64).cur = some [] := by kernel_rfl
@[go_sem] theorem zget65 : (cfg.at 65).cur = some [] := by kernel_rfl
@[go_sem] theorem zget66 : (cfg.at 66).cur = some [] := by kernel_rfl
@[go_sem] theorem zget67 : (cfg.at 67).cur = some [] := by kernel_rfl
@[go_sem] theorem zget68 : (cfg.at 68).cur = some [] := by kernel_rfl
@[go_sem] theorem zget69 : (cfg.at 69).cur = some [] := by kernel_rfl
@[go_sem] theorem zget70 : (cfg.at 70).cur = some [] := by kernel_rfl
@[go_sem] theorem zget71 : (cfg.at 71).cur = some [] := by kernel_rfl
@[go_sem] theorem zget72 : (cfg.at 72).cur = some [] := by kernel_rfl
@[go_sem] theorem zget73 : (cfg.at 73).cur = some [] := by kernel_rfl
@[go_sem] theorem zget74 : (cfg.at 74).cur = some [] := by kernel_rfl
@[go_sem] theorem zget75 : (cfg.at 75).cur = some [] := by kernel_rfl
@[go_sem] theorem zget76 : (cfg.at 76).cur = some [] := by kernel_rfl
@[go_sem] theorem zget77 : (cfg.at 77).cur = some [] := by kernel_rfl
@[go_sem] theorem zget78 : (cfg.at 78).cur = some [] := by kernel_rfl
@[go_sem] theorem zget79 : (cfg.at 79).cur = some [] := by kernel_rfl
@[go_sem] theorem zget80 : (cfg.at 80).cur = some [] := by kernel_rfl
@[go_sem] theorem zget81 : (cfg.at 81).cur = some [] := by kernel_rfl
@[go_sem] theorem zget82 : (cfg.at 82).cur = some [] := by kernel_rfl
@[go_sem] theorem zget83 : (cfg.at 83).cur = some [] := by kernel_rfl
@[go_sem] theorem zget84 : (cfg.at 84).cur = some [] := by kernel_rfl
@[go_sem] theorem zget85 : (cfg.at 85).cur = some [] := by kernel_rfl
@[go_sem] theorem zget86 : (cfg.at 86).cur = some [] := by kernel_rfl
@[go_sem] theorem zget87 : (cfg.at 87).cur = some [] := by kernel_rfl
@[go_sem] theorem zget88 : (cfg.at 88).cur = some [] := by kernel_rfl
@[go_sem] theorem zget89 : (cfg.at 89).cur = some [] := by kernel_rfl
@[go_sem] theorem zget90 : (cfg.at 90).cur = some [] := by kernel_rfl
@[go_sem] theorem zget91 : (cfg.at 91).cur = some [] := by kernel_rfl
@[go_sem] theorem zget92 : (cfg.at 92).cur = some [] := by kernel_rfl
@[go_sem] theorem zget93 : (cfg.at 93).cur = some [] := by kernel_rfl
@[go_sem] theorem zget94 : (cfg.at 94).cur = some [20, 26, 53] := by kernel_rfl
@[go_sem] theorem zget95 : (cfg.at 95).cur = some [] := by kernel_rfl
@[go_sem] theorem zget96 : (cfg.at 96).cur = some [] := by kernel_rfl
@[go_sem] theorem zget97 : (cfg.at 97).cur = some [] := by kernel_rfl
@[go_sem] theorem zget98 : (cfg.at 98).cur = some [] := by kernel_rfl
@[go_sem] theorem zget99 : (cfg.at 99).cur = some [] := by kernel_rfl
@[go_sem] theorem zget100 : (cfg.at 100).cur = some [] := by kernel_rfl
@[go_sem] theorem zget101 : (cfg.at 101).cur = some [] := by kernel_rfl
@[go_sem] theorem zget102 : (cfg.at 102).cur = some [] := by kernel_rfl
@[go_sem] theorem zget103 : (cfg.at 103).cur = some [] := by kernel_rfl
@[go_sem] theorem zget104 : (cfg.at 104).cur = some [] := by kernel_rfl
@[go_sem] theorem zget105 : (cfg.at 105).cur = some [] := by kernel_rfl
@[go_sem] theorem zget106 : (cfg.at 106).cur = some [] := by kernel_rfl
@[go_sem] theorem zget107 : (cfg.at 107).cur = some [] := by kernel_rfl
@[go_sem] theorem zget108 : (cfg.at 108).cur = some [] := by kernel_rfl
@[go_sem] theorem zget109 : (cfg.at 109).cur = some [] := by kernel_rfl
@[go_sem] theorem zget110 : (cfg.at 110).cur = some [] := by kernel_rfl
@[go_sem] theorem zget111 : (cfg.at 111).cur = some [] := by kernel_rfl
@[go_sem] theorem zget112 : (cfg.at 112).cur = some [] := by kernel_rfl
@[go_sem] theorem zget113 : (cfg.at 113).cur = some [] := by kernel_rfl
@[go_sem] theorem zget114 : (cfg.at 114).cur = some [] := by kernel_rfl
@[go_sem] theorem zget115 : (cfg.at 115).cur = some [] := by kernel_rfl
@[go_sem] theorem zget116 : (cfg.at 116).cur = some [] := by kernel_rfl
@[go_sem] theorem zget117 : (cfg.at 117).cur = some [] := by kernel_rfl
@[go_sem] theorem zget118 : (cfg.at 118).cur = some [] := by kernel_rfl
@[go_sem] theorem zget119 : (cfg.at 119).cur = some [] := by kernel_rfl
@[go_sem] theorem zget120 : (cfg.at 120).cur = some [] := by kernel_rfl
@[go_sem] theorem zget121 : (cfg.at 121).cur = some [] := by kernel_rfl
@[go_sem] theorem zget122 : (cfg.at 122).cur = some [] := by kernel_rfl
@[go_sem] theorem zget123 : (cfg.at 123).cur = some [] := by kernel_rfl
@[go_sem] theorem zget124 : (cfg.at 124).cur = some [] := by kernel_rfl
@[go_sem] theorem zget125 : (cfg.at 125).cur = some [] := by kernel_rfl
@[go_sem] theorem zget126 : (cfg.at 126).cur = some [] := by kernel_rfl
@[go_sem] theorem zget127 : (cfg.at 127).cur = some [] := by kernel_rfl
@[go_sem] theorem zget128 : (cfg.at 128).cur = some [] := by kernel_rfl
@[go_sem] theorem zget129 : (cfg.at 129).cur = some [] := by kernel_rfl
@[go_sem] theorem zget130 : (cfg.at 130).cur = some [] := by kernel_rfl
@[go_sem] theorem zget131 : (cfg.at 131).cur = some [] := by kernel_rfl
@[go_sem] theorem zget132 : (cfg.at 132).cur = some [] := by kernel_rfl
@[go_sem] theorem zget133 : (cfg.at 133).cur = none := by kernel_rfl
@[go_sem] theorem zget134 : (cfg.at 134).cur = some [] := by kernel_rfl
@[go_sem] theorem zget135 : (cfg.at 135).cur = some [] := by kernel_rfl
@[go_sem] theorem zget136 : (cfg.at 136).cur = some [] := by kernel_rfl
@[go_sem] theorem zget137 : (cfg.at 137).cur = some [] := by kernel_rfl
@[go_sem] theorem zget138 : (cfg.at 138).cur = some [] := by kernel_rfl
@[go_sem] theorem zget139 : (cfg.at 139).cur = some [] := by kernel_rfl
@[go_sem] theorem zget140 : (cfg.at 140).cur = some [] := by kernel_rfl
@[go_sem] theorem zget141 : (cfg.at 141).cur = some [] := by kernel_rfl
@[go_sem] theorem zget142 : (cfg.at 142).cur = some [] := by kernel_rfl
@[go_sem] theorem zget143 : (cfg.at 143).cur = some [] := by kernel_rfl
@[go_sem] theorem zget144 : (cfg.at 144).cur = some [] := by kernel_rfl
@[go_sem] theorem zget145 : (cfg.at 145).cur = some [] := by kernel_rfl
@[go_sem] theorem zget146 : (cfg.at 146).cur = some [7] := by kernel_rfl
@[go_sem] theorem zget147 : (cfg.at 147).cur = some [] := by kernel_rfl
@[go_sem] theorem zget148 : (cfg.at 148).cur = some [] := by kernel_rfl
@[go_sem] theorem zget149 : (cfg.at 149).cur = some [] := by kernel_rfl
@[go_sem] theorem zget150 : (cfg.at 150).cur = some [] := by kernel_rfl
@[go_sem] theorem zget151 : (cfg.at 151).cur = some [] := by kernel_rfl
@[go_sem] theorem zget152 : (cfg.at 152).cur = some [] := by kernel_rfl
@[go_sem] theorem zget153 : (cfg.at 153).cur = some [] := by kernel_rfl
@[go_sem] theorem zget154 : (cfg.at 154).cur = some [] := by kernel_rfl
@[go_sem] theorem zget155 : (cfg.at 155).cur = some [] := by kernel_rfl
@[go_sem] theorem zget156 : (cfg.at 156).cur = some [] := by kernel_rfl
@[go_sem] theorem zget157 : (cfg.at 157).cur = some [] := by kernel_rfl
@[go_sem] theorem zget158 : (cfg.at 158).cur = some [] := by kernel_rfl
@[go_sem] theorem zget159 : (cfg.at 159).cur = some [] := by kernel_rfl
@[go_sem] theorem zget160 : (cfg.at 160).cur = some [] := by kernel_rfl
@[go_sem] theorem zget161 : (cfg.at 161).cur = some [] := by kernel_rfl
@[go_sem] theorem zget162 : (cfg.at 162).cur = some [] := by kernel_rfl
@[go_sem] theorem zget163 : (cfg.at 163).cur = some [] := by kernel_rfl
@[go_sem] theorem zget164 : (cfg.at 164).cur = some [] := by kernel_rfl
@[go_sem] theorem zget165 : (cfg.at 165).cur = some [] := by kernel_rfl
@[go_sem] theorem zget166 : (cfg.at 166).cur = some [4] := by kernel_rfl
@[go_sem] theorem zget167 : (cfg.at 167).cur = some [] := by kernel_rfl
@[go_sem] theorem zget168 : (cfg.at 168).cur = some [148] := by kernel_rfl
@[go_sem] theorem zget169 : (cfg.at 169).cur = some [] := by kernel_rfl
@[go_sem] theorem zget170 : (cfg.at 170).cur = some [] := by kernel_rfl
@[go_sem] theorem zget171 : (cfg.at 171).cur = none := by kernel_rfl
@[go_sem] theorem zget172 : (cfg.at 172).cur = some [] := by kernel_rfl
@[go_sem] theorem zget173 : (cfg.at 173).cur = some [] := by kernel_rfl
@[go_sem] theorem zget174 : (cfg.at 174).cur = some [] := by kernel_rfl
@[go_sem] theorem zget175 : (cfg.at 175).cur = some [] := by kernel_rfl
@[go_sem] theorem zget176 : (cfg.at 176).cur = some [] := by kernel_rfl
@[go_sem] theorem zget177 : (cfg.at 177).cur = some [] := by kernel_rfl
@[go_sem] theorem zget178 : (cfg.at 178).cur = some [] := by kernel_rfl
@[go_sem] theorem zget179 : (cfg.at 179).cur = some [] := by kernel_rfl
@[go_sem] theorem zget180 : (cfg.at 180).cur = some [] := by kernel_rfl
@[go_sem] theorem zget181 : (cfg.at 181).cur = some [] := by kernel_rfl
@[go_sem] theorem zget182 : (cfg.at 182).cur = some [] := by kernel_rfl
@[go_sem] theorem zget183 : (cfg.at 183).cur = some [] := by kernel_rfl
@[go_sem] theorem zget184 : (cfg.at 184).cur = some [] := by kernel_rfl
@[go_sem] theorem zget185 : (cfg.at 185).cur = some [] := by kernel_rfl
@[go_sem] theorem zget186 : (cfg.at 186).cur = some [] := by kernel_rfl
@[go_sem] theorem zget202 : (cfg.at 202).cur = some [] := by kernel_rfl
end Go.Proofs.Ytgnpnfkncbnjnaa
namespace Go.Proofs.Ytgnpnfkncbnjnaa
open Go Go.Am
@[go_sem] theorem at_fn (f : FuncId) : (cfg.at f).fn = cfg.fn := rfl
@[go_sem] theorem at_ty (f : FuncId) : (cfg.at f).ty = cfg.ty := rfl
@[go_sem] theorem at_mode (f : FuncId) : (cfg.at f).mode = cfg.mode := rfl
structure Rg where
  lo : Int
  hi : Int
  deriving DecidableEq, Inhabited
structure Rel where
  frm : Int
  rate : Rg
  deriving DecidableEq, Inhabited
structure Ves where
  vol : Int
  free : Rg
  bound : Rg
  bands : List Rel
  deriving DecidableEq, Inhabited
structure Pip where
  a : Int
  b : Int
  out : Rg
  back : Rg
  deriving DecidableEq, Inhabited
structure Pmp where
  at' : Int
  part : Rg
  deriving DecidableEq, Inhabited
structure Inl where
  at' : Int
  gas : Rg
  deriving DecidableEq, Inhabited
structure Gtr where
  at' : Int
  part : Rg
  room : Rg
  deriving DecidableEq, Inhabited
structure Vac where
  vessels : List Ves
  pipes : List Pip
  pumps : List Pmp
  leaks : List Inl
  getters : List Gtr
  deriving DecidableEq, Inhabited
structure Bk where
  ticks : Int
  heat : Int
  shut : List Int
  flash : Bool
  deriving DecidableEq, Inhabited
structure Gs where
  free : List Rg
  bound : List Rg
  room : List Rg
  most : Int
  flashed : Bool
  deriving DecidableEq, Inhabited
structure Tri where
  of : List Int
  cost : Int
  deriving DecidableEq, Inhabited
structure Hnt where
  suspects : Int
  trials : List Tri
  deriving DecidableEq, Inhabited
structure Try' where
  trial : Int
  inn : Bool
  deriving DecidableEq, Inhabited
@[go_sem] def iV (n : Int) : AV := .int .i64 n
@[go_sem] def rgV (r : Rg) : AV := .agg [.int .i64 r.lo, .int .i64 r.hi]
@[go_sem] def relV (x : Rel) : AV := .agg [.int .i64 x.frm, .int .i64 x.rate.lo, .int .i64 x.rate.hi]
@[go_sem] def vesV (x : Ves) : AV := .agg [.int .i64 x.vol, .int .i64 x.free.lo, .int .i64 x.free.hi, .int .i64 x.bound.lo, .int .i64 x.bound.hi, .lst (x.bands.map relV)]
@[go_sem] def pipV (x : Pip) : AV := .agg [.int .i64 x.a, .int .i64 x.b, .int .i64 x.out.lo, .int .i64 x.out.hi, .int .i64 x.back.lo, .int .i64 x.back.hi]
@[go_sem] def pmpV (x : Pmp) : AV := .agg [.int .i64 x.at', .int .i64 x.part.lo, .int .i64 x.part.hi]
@[go_sem] def inlV (x : Inl) : AV := .agg [.int .i64 x.at', .int .i64 x.gas.lo, .int .i64 x.gas.hi]
@[go_sem] def gtrV (x : Gtr) : AV := .agg [.int .i64 x.at', .int .i64 x.part.lo, .int .i64 x.part.hi, .int .i64 x.room.lo, .int .i64 x.room.hi]
@[go_sem] def vacV (v : Vac) : AV := .agg [.lst (v.vessels.map vesV), .lst (v.pipes.map pipV), .lst (v.pumps.map pmpV), .lst (v.leaks.map inlV), .lst (v.getters.map gtrV)]
@[go_sem] def bkV (s : Bk) : AV := .agg [.int .i64 s.ticks, .int .i64 s.heat, .lst (s.shut.map iV), .bool s.flash]
@[go_sem] def gsV (g : Gs) : AV := .agg [.lst (g.free.map rgV), .lst (g.bound.map rgV), .lst (g.room.map rgV), .int .i64 g.most, .bool g.flashed]
@[go_sem] def triV (t : Tri) : AV := .agg [.lst (t.of.map iV), .int .i64 t.cost]
@[go_sem] def hntV (h : Hnt) : AV := .agg [.int .i64 h.suspects, .lst (h.trials.map triV)]
@[go_sem] def tryV (t : Try') : AV := .agg [.int .i64 t.trial, .bool t.inn]
@[go_sem] theorem fl_i (l : List Int) : flats (l.map iV) = true := flats_map (f := iV) (fun _ => rfl) l
@[go_sem] theorem fl_rg (l : List Rg) : flats (l.map rgV) = true := flats_map (f := rgV) (fun _ => rfl) l
@[go_sem] theorem fl_rel (l : List Rel) : flats (l.map relV) = true := flats_map (f := relV) (fun _ => rfl) l
@[go_sem] theorem fl_ves (l : List Ves) : flats (l.map vesV) = true := flats_map (f := vesV) (fun x => by simp only [vesV, AV.flat, flats, fl_rel]) l
@[go_sem] theorem fl_pip (l : List Pip) : flats (l.map pipV) = true := flats_map (f := pipV) (fun _ => rfl) l
@[go_sem] theorem fl_pmp (l : List Pmp) : flats (l.map pmpV) = true := flats_map (f := pmpV) (fun _ => rfl) l
@[go_sem] theorem fl_inl (l : List Inl) : flats (l.map inlV) = true := flats_map (f := inlV) (fun _ => rfl) l
@[go_sem] theorem fl_gtr (l : List Gtr) : flats (l.map gtrV) = true := flats_map (f := gtrV) (fun _ => rfl) l
@[go_sem] theorem fl_tri (l : List Tri) : flats (l.map triV) = true := flats_map (f := triV) (fun x => by simp only [triV, AV.flat, flats, fl_i]) l
@[go_sem] theorem fl_try (l : List Try') : flats (l.map tryV) = true := flats_map (f := tryV) (fun _ => rfl) l
@[go_sem] theorem fl_bk (l : List Bk) : flats (l.map bkV) = true := flats_map (f := bkV) (fun x => by simp only [bkV, AV.flat, flats, fl_i]) l
@[go_sem] theorem fl_vac (l : List Vac) : flats (l.map vacV) = true := flats_map (f := vacV) (fun x => by simp only [vacV, AV.flat, flats, fl_ves, fl_pip, fl_pmp, fl_inl, fl_gtr]) l
@[go_sem] theorem fl_gs (l : List Gs) : flats (l.map gsV) = true := flats_map (f := gsV) (fun x => by simp only [gsV, AV.flat, flats, fl_rg]) l
@[go_sem] theorem z_i (l : List Int) : okZ 1 (l.map iV) = true := okZ_map (f := iV) (z := 1) (fun _ => rfl) l
@[go_sem] theorem z_rg (l : List Rg) : okZ 2 (l.map rgV) = true := okZ_map (f := rgV) (z := 2) (fun _ => rfl) l
@[go_sem] theorem z_rel (l : List Rel) : okZ 3 (l.map relV) = true := okZ_map (f := relV) (z := 3) (fun _ => rfl) l
@[go_sem] theorem z_ves (l : List Ves) : okZ 6 (l.map vesV) = true := okZ_map (f := vesV) (z := 6) (fun _ => rfl) l
@[go_sem] theorem z_pip (l : List Pip) : okZ 6 (l.map pipV) = true := okZ_map (f := pipV) (z := 6) (fun _ => rfl) l
@[go_sem] theorem z_pmp (l : List Pmp) : okZ 3 (l.map pmpV) = true := okZ_map (f := pmpV) (z := 3) (fun _ => rfl) l
@[go_sem] theorem z_inl (l : List Inl) : okZ 3 (l.map inlV) = true := okZ_map (f := inlV) (z := 3) (fun _ => rfl) l
@[go_sem] theorem z_gtr (l : List Gtr) : okZ 5 (l.map gtrV) = true := okZ_map (f := gtrV) (z := 5) (fun _ => rfl) l
@[go_sem] theorem z_tri (l : List Tri) : okZ 2 (l.map triV) = true := okZ_map (f := triV) (z := 2) (fun _ => rfl) l
@[go_sem] theorem z_try (l : List Try') : okZ 2 (l.map tryV) = true := okZ_map (f := tryV) (z := 2) (fun _ => rfl) l
@[go_sem] theorem z_bk (l : List Bk) : okZ 4 (l.map bkV) = true := okZ_map (f := bkV) (z := 4) (fun _ => rfl) l
attribute [go_sem] List.length_map
end Go.Proofs.Ytgnpnfkncbnjnaa
namespace Go.Proofs.Ytgnpnfkncbnjnaa
open Go Go.Am
theorem Try.laidOut : laidOutB Try.prog = true := by kernel_rfl
theorem Try.own : ownKnob Try.prog.godebug = none := by kernel_rfl
theorem Try.rowed : mapsRowed Try.prog = true := by kernel_rfl
theorem Try.noStops : (Try.prog.stops == []) = true := by kernel_rfl
theorem Try.noKnobs : (Try.prog.stopKnobs == []) = true := by kernel_rfl
theorem Try.plain : (Rows.pumpKnownRow.plainKeys == Try.prog.plainKeys) = true := by kernel_rfl
theorem Try.heard : Try.prog.stopsHeard = true := by kernel_rfl
theorem Try.enters : Try.prog.mayEnter = true := by kernel_rfl
theorem Try.lifts : (Rows.pumpKnownRow.lifted == Try.prog.liftsFinal) = true := by kernel_rfl
theorem Try.makes : (Try.prog.make == some Rows.pumpKnownRow.make) = true := by kernel_rfl
end Go.Proofs.Ytgnpnfkncbnjnaa
namespace Go.Proofs.Ytgnpnfkncbnjnaa
open Go Go.Am
def I64 (n : Int) : Prop := -9223372036854775808 ≤ n ∧ n ≤ 9223372036854775807
def Arg {α : Type} (t : TypeId) (d : Nat) (cells : α → List AV) (ok : α → Prop) : Prop := ∀ cs, Content Try.prog d t cs → ∃ a, cs = cells a ∧ ok a
theorem arg_int (d : Nat) : Arg 3 (d + 1) (fun n => [iV n]) I64 := by
  intro cs h
  unfold Content at h
  rw [show Try.prog.underlying 3 = some (.int .i64) by kernel_rfl] at h
  obtain ⟨n, rfl, hn⟩ := h
  refine ⟨n, rfl, ?_⟩
  simp only [Lit.wf, Bool.and_eq_true, decide_eq_true_eq] at hn
  exact hn
theorem arg_bool (d : Nat) : Arg 4 (d + 1) (fun b => [.bool b]) (fun _ => True) := by
  intro cs h
  unfold Content at h
  rw [show Try.prog.underlying 4 = some .bool by kernel_rfl] at h
  obtain ⟨b, rfl⟩ := h
  exact ⟨b, rfl, trivial⟩
theorem rows_of {α : Type} {e z : Nat} {d : Nat} {cells : α → List AV} {ok : α → Prop} {f : α → AV} (he : Arg e d cells ok) (hf : ∀ a, rowA z (cells a) = f a) : ∀ rows : List (List AV), (∀ r ∈ rows, r.length = z ∧ Content Try.prog d e r) →
    ∃ l : List α, rows.map (rowA z) = l.map f ∧ l.length = rows.length ∧ ∀ a ∈ l, ok a
  | [], _ => ⟨[], rfl, rfl, fun a h => by cases h⟩
  | r :: rows, h => by
    obtain ⟨a, rfl, ha⟩ := he r (h r List.mem_cons_self).2
    obtain ⟨l, h1, h2, h3⟩ := rows_of he hf rows fun r hr => h r (List.mem_cons_of_mem _ hr)
    refine ⟨a :: l, by simp [h1, hf], by simp [h2], fun b hb => ?_⟩
    rcases List.mem_cons.1 hb with rfl | hb
    · exact ha
    · exact h3 b hb
theorem arg_slice {α : Type} {t e z : Nat} {d : Nat} {cells : α → List AV} {ok : α → Prop} {f : α → AV} (hu : Try.prog.underlying t = some (.slice e)) (hz : Try.prog.cellsOf e = z) (he : Arg e d cells ok) (hf : ∀ a, rowA z (cells a) = f a) :
    Arg t (d + 1) (fun l : List α => [.lst (l.map f)]) (fun l => l.length ≤ 9223372036854775807 ∧ ∀ a ∈ l, ok a) := by
  intro cs h
  unfold Content at h
  rw [hu] at h
  obtain ⟨rows, rfl, hl, hr⟩ := h
  rw [hz] at hr ⊢
  obtain ⟨l, h1, h2, h3⟩ := rows_of he hf rows hr
  refine ⟨l, by rw [h1], ?_, h3⟩
  rw [h2]; exact hl
theorem arg_struct2 {α0 α1 : Type} {t : Nat} {t0 : Nat} {t1 : Nat} {d : Nat} {fs : Array Field} {c0 : α0 → List AV} {c1 : α1 → List AV} {k0 : α0 → Prop} {k1 : α1 → Prop} (hu : Try.prog.underlying t = some (.struct fs)) (ht : fs.toList.map (·.type) = [t0, t1]) (h0 : Arg t0 d c0 k0) (h1 : Arg t1 d c1 k1) :
    Arg t (d + 1) (fun x : α0 × α1 => c0 x.1 ++ c1 x.2) (fun x => k0 x.1 ∧ k1 x.2) := by
  intro cs h
  unfold Content at h
  rw [hu] at h
  simp only at h
  obtain ⟨pcs, rfl, hl, hp⟩ := h
  have hn : fs.toList.length = 2 := by have := congrArg List.length ht; simpa using this
  have key : ∀ (i t' : Nat), ([t0, t1] : List Nat)[i]? = some t' → ∃ pc, pcs[i]? = some pc ∧ Content Try.prog d t' pc := by
    intro i t' hi
    rw [← ht, List.getElem?_map] at hi
    cases hf : fs.toList[i]? with
    | none => rw [hf] at hi; cases hi
    | some f =>
      rw [hf] at hi
      have hlt := (List.getElem?_eq_some_iff.1 hf).1
      have hlt2 : i < pcs.length := by omega
      obtain rfl : f.type = t' := by simpa using hi
      exact ⟨_, List.getElem?_eq_getElem hlt2, (hp i f _ hf (List.getElem?_eq_getElem hlt2)).2⟩
  obtain ⟨p0, q0, g0⟩ := key 0 _ rfl
  obtain ⟨x0, rfl, o0⟩ := h0 p0 g0
  obtain ⟨p1, q1, g1⟩ := key 1 _ rfl
  obtain ⟨x1, rfl, o1⟩ := h1 p1 g1
  have e : pcs = [c0 x0, c1 x1] := by
    have hl2 : pcs.length = 2 := by omega
    match pcs, hl2 with
    | [y0, y1], _ =>
      simp at q0 q1
      subst q0 q1; rfl
  subst e
  exact ⟨(x0, x1), by simp, ⟨o0, o1⟩⟩
theorem arg_struct3 {α0 α1 α2 : Type} {t : Nat} {t0 : Nat} {t1 : Nat} {t2 : Nat} {d : Nat} {fs : Array Field} {c0 : α0 → List AV} {c1 : α1 → List AV} {c2 : α2 → List AV} {k0 : α0 → Prop} {k1 : α1 → Prop} {k2 : α2 → Prop} (hu : Try.prog.underlying t = some (.struct fs)) (ht : fs.toList.map (·.type) = [t0, t1, t2]) (h0 : Arg t0 d c0 k0) (h1 : Arg t1 d c1 k1) (h2 : Arg t2 d c2 k2) :
    Arg t (d + 1) (fun x : α0 × α1 × α2 => c0 x.1 ++ c1 x.2.1 ++ c2 x.2.2) (fun x => k0 x.1 ∧ k1 x.2.1 ∧ k2 x.2.2) := by
  intro cs h
  unfold Content at h
  rw [hu] at h
  simp only at h
  obtain ⟨pcs, rfl, hl, hp⟩ := h
  have hn : fs.toList.length = 3 := by have := congrArg List.length ht; simpa using this
  have key : ∀ (i t' : Nat), ([t0, t1, t2] : List Nat)[i]? = some t' → ∃ pc, pcs[i]? = some pc ∧ Content Try.prog d t' pc := by
    intro i t' hi
    rw [← ht, List.getElem?_map] at hi
    cases hf : fs.toList[i]? with
    | none => rw [hf] at hi; cases hi
    | some f =>
      rw [hf] at hi
      have hlt := (List.getElem?_eq_some_iff.1 hf).1
      have hlt2 : i < pcs.length := by omega
      obtain rfl : f.type = t' := by simpa using hi
      exact ⟨_, List.getElem?_eq_getElem hlt2, (hp i f _ hf (List.getElem?_eq_getElem hlt2)).2⟩
  obtain ⟨p0, q0, g0⟩ := key 0 _ rfl
  obtain ⟨x0, rfl, o0⟩ := h0 p0 g0
  obtain ⟨p1, q1, g1⟩ := key 1 _ rfl
  obtain ⟨x1, rfl, o1⟩ := h1 p1 g1
  obtain ⟨p2, q2, g2⟩ := key 2 _ rfl
  obtain ⟨x2, rfl, o2⟩ := h2 p2 g2
  have e : pcs = [c0 x0, c1 x1, c2 x2] := by
    have hl2 : pcs.length = 3 := by omega
    match pcs, hl2 with
    | [y0, y1, y2], _ =>
      simp at q0 q1 q2
      subst q0 q1 q2; rfl
  subst e
  exact ⟨(x0, x1, x2), by simp, ⟨o0, o1, o2⟩⟩
theorem arg_struct4 {α0 α1 α2 α3 : Type} {t : Nat} {t0 : Nat} {t1 : Nat} {t2 : Nat} {t3 : Nat} {d : Nat} {fs : Array Field} {c0 : α0 → List AV} {c1 : α1 → List AV} {c2 : α2 → List AV} {c3 : α3 → List AV} {k0 : α0 → Prop} {k1 : α1 → Prop} {k2 : α2 → Prop} {k3 : α3 → Prop} (hu : Try.prog.underlying t = some (.struct fs)) (ht : fs.toList.map (·.type) = [t0, t1, t2, t3]) (h0 : Arg t0 d c0 k0) (h1 : Arg t1 d c1 k1) (h2 : Arg t2 d c2 k2) (h3 : Arg t3 d c3 k3) :
    Arg t (d + 1) (fun x : α0 × α1 × α2 × α3 => c0 x.1 ++ c1 x.2.1 ++ c2 x.2.2.1 ++ c3 x.2.2.2) (fun x => k0 x.1 ∧ k1 x.2.1 ∧ k2 x.2.2.1 ∧ k3 x.2.2.2) := by
  intro cs h
  unfold Content at h
  rw [hu] at h
  simp only at h
  obtain ⟨pcs, rfl, hl, hp⟩ := h
  have hn : fs.toList.length = 4 := by have := congrArg List.length ht; simpa using this
  have key : ∀ (i t' : Nat), ([t0, t1, t2, t3] : List Nat)[i]? = some t' → ∃ pc, pcs[i]? = some pc ∧ Content Try.prog d t' pc := by
    intro i t' hi
    rw [← ht, List.getElem?_map] at hi
    cases hf : fs.toList[i]? with
    | none => rw [hf] at hi; cases hi
    | some f =>
      rw [hf] at hi
      have hlt := (List.getElem?_eq_some_iff.1 hf).1
      have hlt2 : i < pcs.length := by omega
      obtain rfl : f.type = t' := by simpa using hi
      exact ⟨_, List.getElem?_eq_getElem hlt2, (hp i f _ hf (List.getElem?_eq_getElem hlt2)).2⟩
  obtain ⟨p0, q0, g0⟩ := key 0 _ rfl
  obtain ⟨x0, rfl, o0⟩ := h0 p0 g0
  obtain ⟨p1, q1, g1⟩ := key 1 _ rfl
  obtain ⟨x1, rfl, o1⟩ := h1 p1 g1
  obtain ⟨p2, q2, g2⟩ := key 2 _ rfl
  obtain ⟨x2, rfl, o2⟩ := h2 p2 g2
  obtain ⟨p3, q3, g3⟩ := key 3 _ rfl
  obtain ⟨x3, rfl, o3⟩ := h3 p3 g3
  have e : pcs = [c0 x0, c1 x1, c2 x2, c3 x3] := by
    have hl2 : pcs.length = 4 := by omega
    match pcs, hl2 with
    | [y0, y1, y2, y3], _ =>
      simp at q0 q1 q2 q3
      subst q0 q1 q2 q3; rfl
  subst e
  exact ⟨(x0, x1, x2, x3), by simp, ⟨o0, o1, o2, o3⟩⟩
theorem arg_struct5 {α0 α1 α2 α3 α4 : Type} {t : Nat} {t0 : Nat} {t1 : Nat} {t2 : Nat} {t3 : Nat} {t4 : Nat} {d : Nat} {fs : Array Field} {c0 : α0 → List AV} {c1 : α1 → List AV} {c2 : α2 → List AV} {c3 : α3 → List AV} {c4 : α4 → List AV} {k0 : α0 → Prop} {k1 : α1 → Prop} {k2 : α2 → Prop} {k3 : α3 → Prop} {k4 : α4 → Prop} (hu : Try.prog.underlying t = some (.struct fs)) (ht : fs.toList.map (·.type) = [t0, t1, t2, t3, t4]) (h0 : Arg t0 d c0 k0) (h1 : Arg t1 d c1 k1) (h2 : Arg t2 d c2 k2) (h3 : Arg t3 d c3 k3) (h4 : Arg t4 d c4 k4) :
    Arg t (d + 1) (fun x : α0 × α1 × α2 × α3 × α4 => c0 x.1 ++ c1 x.2.1 ++ c2 x.2.2.1 ++ c3 x.2.2.2.1 ++ c4 x.2.2.2.2) (fun x => k0 x.1 ∧ k1 x.2.1 ∧ k2 x.2.2.1 ∧ k3 x.2.2.2.1 ∧ k4 x.2.2.2.2) := by
  intro cs h
  unfold Content at h
  rw [hu] at h
  simp only at h
  obtain ⟨pcs, rfl, hl, hp⟩ := h
  have hn : fs.toList.length = 5 := by have := congrArg List.length ht; simpa using this
  have key : ∀ (i t' : Nat), ([t0, t1, t2, t3, t4] : List Nat)[i]? = some t' → ∃ pc, pcs[i]? = some pc ∧ Content Try.prog d t' pc := by
    intro i t' hi
    rw [← ht, List.getElem?_map] at hi
    cases hf : fs.toList[i]? with
    | none => rw [hf] at hi; cases hi
    | some f =>
      rw [hf] at hi
      have hlt := (List.getElem?_eq_some_iff.1 hf).1
      have hlt2 : i < pcs.length := by omega
      obtain rfl : f.type = t' := by simpa using hi
      exact ⟨_, List.getElem?_eq_getElem hlt2, (hp i f _ hf (List.getElem?_eq_getElem hlt2)).2⟩
  obtain ⟨p0, q0, g0⟩ := key 0 _ rfl
  obtain ⟨x0, rfl, o0⟩ := h0 p0 g0
  obtain ⟨p1, q1, g1⟩ := key 1 _ rfl
  obtain ⟨x1, rfl, o1⟩ := h1 p1 g1
  obtain ⟨p2, q2, g2⟩ := key 2 _ rfl
  obtain ⟨x2, rfl, o2⟩ := h2 p2 g2
  obtain ⟨p3, q3, g3⟩ := key 3 _ rfl
  obtain ⟨x3, rfl, o3⟩ := h3 p3 g3
  obtain ⟨p4, q4, g4⟩ := key 4 _ rfl
  obtain ⟨x4, rfl, o4⟩ := h4 p4 g4
  have e : pcs = [c0 x0, c1 x1, c2 x2, c3 x3, c4 x4] := by
    have hl2 : pcs.length = 5 := by omega
    match pcs, hl2 with
    | [y0, y1, y2, y3, y4], _ =>
      simp at q0 q1 q2 q3 q4
      subst q0 q1 q2 q3 q4; rfl
  subst e
  exact ⟨(x0, x1, x2, x3, x4), by simp, ⟨o0, o1, o2, o3, o4⟩⟩
theorem Arg.to {α β : Type} {t d : Nat} {c : α → List AV} {k : α → Prop} (h : Arg t d c k) (g : α → β) {c' : β → List AV} {k' : β → Prop} (hc : ∀ a, c a = c' (g a)) (hk : ∀ a, k a → k' (g a)) : Arg t d c' k' := fun cs hx => by
  obtain ⟨a, rfl, ha⟩ := h cs hx
  exact ⟨g a, hc a, hk a ha⟩
def Len {α : Type} (l : List α) : Prop := l.length ≤ 9223372036854775807
theorem arg_ints (d : Nat) : Arg 22 (d + 2) (fun l : List Int => [.lst (l.map iV)]) (fun l => Len l ∧ ∀ a ∈ l, I64 a) := arg_slice (z := 1) (by kernel_rfl) (by kernel_rfl) (arg_int d) fun _ => rfl
def Tri.I (t : Tri) : Prop := (Len t.of ∧ ∀ a ∈ t.of, I64 a) ∧ I64 t.cost
def Hnt.I (h : Hnt) : Prop := I64 h.suspects ∧ Len h.trials ∧ ∀ t ∈ h.trials, t.I
def Rg.I (r : Rg) : Prop := I64 r.lo ∧ I64 r.hi
def Rel.I (x : Rel) : Prop := I64 x.frm ∧ x.rate.I
def Ves.I (x : Ves) : Prop := I64 x.vol ∧ x.free.I ∧ x.bound.I ∧ Len x.bands ∧ ∀ a ∈ x.bands, a.I
def Pip.I (x : Pip) : Prop := I64 x.a ∧ I64 x.b ∧ x.out.I ∧ x.back.I
def Pmp.I (x : Pmp) : Prop := I64 x.at' ∧ x.part.I
def Inl.I (x : Inl) : Prop := I64 x.at' ∧ x.gas.I
def Gtr.I (x : Gtr) : Prop := I64 x.at' ∧ x.part.I ∧ x.room.I
def Vac.I (v : Vac) : Prop := (Len v.vessels ∧ ∀ a ∈ v.vessels, a.I) ∧ (Len v.pipes ∧ ∀ a ∈ v.pipes, a.I) ∧ (Len v.pumps ∧ ∀ a ∈ v.pumps, a.I) ∧ (Len v.leaks ∧ ∀ a ∈ v.leaks, a.I) ∧ (Len v.getters ∧ ∀ a ∈ v.getters, a.I)
def Bk.I (s : Bk) : Prop := I64 s.ticks ∧ I64 s.heat ∧ (Len s.shut ∧ ∀ a ∈ s.shut, I64 a)
def Gs.I (g : Gs) : Prop := (Len g.free ∧ ∀ a ∈ g.free, a.I) ∧ (Len g.bound ∧ ∀ a ∈ g.bound, a.I) ∧ (Len g.room ∧ ∀ a ∈ g.room, a.I) ∧ I64 g.most
theorem arg_rg (d : Nat) : Arg 26 (d + 2) (fun r : Rg => [.int .i64 r.lo, .int .i64 r.hi]) Rg.I :=
  (arg_struct2 (t := 26) (t0 := 3) (t1 := 3) Try.underlying26 (by kernel_rfl) (arg_int d) (arg_int d)).to (fun x => (⟨x.1, x.2⟩ : Rg)) (fun _ => rfl) fun _ h => h
theorem arg_rel (d : Nat) : Arg 138 (d + 3) (fun x : Rel => [.int .i64 x.frm, .int .i64 x.rate.lo, .int .i64 x.rate.hi]) Rel.I :=
  (arg_struct2 (t := 138) (t0 := 3) (t1 := 26) Try.underlying138 (by kernel_rfl) (arg_int (d + 1)) (arg_rg d)).to (fun x => (⟨x.1, x.2⟩ : Rel)) (fun _ => rfl) fun _ h => h
theorem arg_ves (d : Nat) : Arg 71 (d + 5) (fun x : Ves => [.int .i64 x.vol, .int .i64 x.free.lo, .int .i64 x.free.hi, .int .i64 x.bound.lo, .int .i64 x.bound.hi, .lst (x.bands.map relV)]) Ves.I :=
  (arg_struct4 (t := 71) (t0 := 3) (t1 := 26) (t2 := 26) (t3 := 69) Try.underlying71 (by kernel_rfl) (arg_int (d + 3)) (arg_rg (d + 2)) (arg_rg (d + 2)) (arg_slice (t := 69) (e := 138) (f := relV) (z := 3) (by kernel_rfl) (by kernel_rfl) (arg_rel d) fun _ => rfl)).to (fun x => (⟨x.1, x.2.1, x.2.2.1, x.2.2.2⟩ : Ves)) (fun _ => rfl) fun _ h => h
theorem arg_pip (d : Nat) : Arg 140 (d + 3) (fun x : Pip => [.int .i64 x.a, .int .i64 x.b, .int .i64 x.out.lo, .int .i64 x.out.hi, .int .i64 x.back.lo, .int .i64 x.back.hi]) Pip.I :=
  (arg_struct4 (t := 140) (t0 := 3) (t1 := 3) (t2 := 26) (t3 := 26) Try.underlying140 (by kernel_rfl) (arg_int (d + 1)) (arg_int (d + 1)) (arg_rg d) (arg_rg d)).to (fun x => (⟨x.1, x.2.1, x.2.2.1, x.2.2.2⟩ : Pip)) (fun _ => rfl) fun _ h => h
theorem arg_pmp (d : Nat) : Arg 128 (d + 3) (fun x : Pmp => [.int .i64 x.at', .int .i64 x.part.lo, .int .i64 x.part.hi]) Pmp.I :=
  (arg_struct2 (t := 128) (t0 := 3) (t1 := 26) Try.underlying128 (by kernel_rfl) (arg_int (d + 1)) (arg_rg d)).to (fun x => (⟨x.1, x.2⟩ : Pmp)) (fun _ => rfl) fun _ h => h
theorem arg_inl (d : Nat) : Arg 61 (d + 3) (fun x : Inl => [.int .i64 x.at', .int .i64 x.gas.lo, .int .i64 x.gas.hi]) Inl.I :=
  (arg_struct2 (t := 61) (t0 := 3) (t1 := 26) Try.underlying61 (by kernel_rfl) (arg_int (d + 1)) (arg_rg d)).to (fun x => (⟨x.1, x.2⟩ : Inl)) (fun _ => rfl) fun _ h => h
theorem arg_gtr (d : Nat) : Arg 142 (d + 3) (fun x : Gtr => [.int .i64 x.at', .int .i64 x.part.lo, .int .i64 x.part.hi, .int .i64 x.room.lo, .int .i64 x.room.hi]) Gtr.I :=
  (arg_struct3 (t := 142) (t0 := 3) (t1 := 26) (t2 := 26) Try.underlying142 (by kernel_rfl) (arg_int (d + 1)) (arg_rg d) (arg_rg d)).to (fun x => (⟨x.1, x.2.1, x.2.2⟩ : Gtr)) (fun _ => rfl) fun _ h => h
theorem arg_vac (d : Nat) : Arg 39 (d + 7) (fun v : Vac => [.lst (v.vessels.map vesV), .lst (v.pipes.map pipV), .lst (v.pumps.map pmpV), .lst (v.leaks.map inlV), .lst (v.getters.map gtrV)]) Vac.I :=
  (arg_struct5 (t := 39) (t0 := 33) (t1 := 34) (t2 := 35) (t3 := 36) (t4 := 37) Try.underlying39 (by kernel_rfl) (arg_slice (t := 33) (e := 71) (f := vesV) (z := 6) (by kernel_rfl) (by kernel_rfl) (arg_ves d) fun x => by simp only [rowA, shuts, AV.shut, vesV]) (arg_slice (t := 34) (e := 140) (f := pipV) (z := 6) (by kernel_rfl) (by kernel_rfl) (arg_pip (d + 2)) fun _ => rfl)
    (arg_slice (t := 35) (e := 128) (f := pmpV) (z := 3) (by kernel_rfl) (by kernel_rfl) (arg_pmp (d + 2)) fun _ => rfl) (arg_slice (t := 36) (e := 61) (f := inlV) (z := 3) (by kernel_rfl) (by kernel_rfl) (arg_inl (d + 2)) fun _ => rfl) (arg_slice (t := 37) (e := 142) (f := gtrV) (z := 5) (by kernel_rfl) (by kernel_rfl) (arg_gtr (d + 2)) fun _ => rfl)).to (fun x => (⟨x.1, x.2.1, x.2.2.1, x.2.2.2.1, x.2.2.2.2⟩ : Vac)) (fun _ => rfl) fun _ h => h
theorem arg_bk (d : Nat) : Arg 42 (d + 3) (fun s : Bk => [.int .i64 s.ticks, .int .i64 s.heat, .lst (s.shut.map iV), .bool s.flash]) Bk.I :=
  (arg_struct4 (t := 42) (t0 := 3) (t1 := 3) (t2 := 22) (t3 := 4) Try.underlying42 (by kernel_rfl) (arg_int (d + 1)) (arg_int (d + 1)) (arg_ints d) (arg_bool (d + 1))).to (fun x => (⟨x.1, x.2.1, x.2.2.1, x.2.2.2⟩ : Bk)) (fun _ => rfl) fun _ h => ⟨h.1, h.2.1, h.2.2.1⟩
theorem arg_gs (d : Nat) : Arg 56 (d + 4) (fun g : Gs => [.lst (g.free.map rgV), .lst (g.bound.map rgV), .lst (g.room.map rgV), .int .i64 g.most, .bool g.flashed]) Gs.I :=
  (arg_struct5 (t := 56) (t0 := 50) (t1 := 50) (t2 := 50) (t3 := 3) (t4 := 4) Try.underlying56 (by kernel_rfl) (arg_slice (t := 50) (e := 26) (f := rgV) (z := 2) (by kernel_rfl) (by kernel_rfl) (arg_rg d) fun _ => rfl) (arg_slice (t := 50) (e := 26) (f := rgV) (z := 2) (by kernel_rfl) (by kernel_rfl) (arg_rg d) fun _ => rfl) (arg_slice (t := 50) (e := 26) (f := rgV) (z := 2) (by kernel_rfl) (by kernel_rfl) (arg_rg d) fun _ => rfl) (arg_int (d + 2)) (arg_bool (d + 2))).to (fun x => (⟨x.1, x.2.1, x.2.2.1, x.2.2.2.1, x.2.2.2.2⟩ : Gs)) (fun _ => rfl) fun _ h => ⟨h.1, h.2.1, h.2.2.1, h.2.2.2.1⟩
end Go.Proofs.Ytgnpnfkncbnjnaa
