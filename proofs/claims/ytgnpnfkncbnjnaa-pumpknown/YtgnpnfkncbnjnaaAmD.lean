/- The tables of this program, the proof that they fit it, and its closed facts. -/
import Derived.Test.YtgnpnfkncbnjnaaAmA
import Derived.Test.YtgnpnfkncbnjnaaProg
import Derived.Test.YtgnpnfkncbnjnaaAmC
import Derived.KernelRfl
import Derived.Test.YtgnpnfkncbnjnaaRows
import Derived.ProofKit
set_option maxRecDepth 100000
namespace Go.Proofs.Ytgnpnfkncbnjnaa
open Go.Am
noncomputable def ty1 : TI := ⟨.func #[] #[] false, 1, 8, false, some .nilf, false⟩
noncomputable def ty2 : TI := ⟨.int .i64, 1, 8, false, some (.int .i64 0), false⟩
noncomputable def ty3 : TI := ⟨.int .i64, 1, 8, false, some (.int .i64 0), false⟩
noncomputable def ty4 : TI := ⟨.bool, 1, 1, false, some (.bool false), false⟩
noncomputable def ty5 : TI := ⟨.int .u8, 1, 1, false, some (.int .u8 0), false⟩
noncomputable def ty6 : TI := ⟨.int .u8, 1, 1, false, some (.int .u8 0), false⟩
noncomputable def ty9 : TI := ⟨.string, 1, 16, false, some (.str ⟨#[]⟩), false⟩
noncomputable def ty10 : TI := ⟨.string, 1, 16, false, some (.str ⟨#[]⟩), false⟩
noncomputable def ty11 : TI := ⟨.string, 1, 16, false, some (.str ⟨#[]⟩), false⟩
noncomputable def ty12 : TI := ⟨.int .u64, 1, 8, false, some (.int .u64 0), false⟩
noncomputable def ty15 : TI := ⟨.pointer 236, 1, 8, false, some .nilp, false⟩
noncomputable def ty16 : TI := ⟨.pointer 239, 1, 8, false, some .nilp, false⟩
noncomputable def ty17 : TI := ⟨.pointer 248, 1, 8, false, some .nilp, false⟩
noncomputable def ty18 : TI := ⟨.struct #[⟨ "typ", 17, 0, false, "", "internal/runtime/maps", 0⟩], 1, 8, true, some (.agg [.nilp]), false⟩
noncomputable def ty19 : TI := ⟨.struct #[⟨ "typ", 17, 0, false, "", "internal/runtime/maps", 0⟩], 1, 8, true, some (.agg [.nilp]), false⟩
noncomputable def ty21 : TI := ⟨.int .i32, 1, 4, false, some (.int .i32 0), false⟩
noncomputable def ty22 : TI := ⟨.slice 3, 1, 24, false, some .nils, false⟩
noncomputable def ty23 : TI := ⟨.pointer 132, 1, 8, false, some .nilp, false⟩
noncomputable def ty24 : TI := ⟨.func #[22] #[23] false, 1, 8, false, some .nilf, false⟩
noncomputable def ty25 : TI := ⟨.struct #[⟨ "Lo", 3, 0, false, "", "", 0⟩, ⟨ "Hi", 3, 1, false, "", "", 8⟩], 2, 16, true, some (.agg [(.int .i64 0), (.int .i64 0)]), true⟩
noncomputable def ty26 : TI := ⟨.struct #[⟨ "Lo", 3, 0, false, "", "", 0⟩, ⟨ "Hi", 3, 1, false, "", "", 8⟩], 2, 16, true, some (.agg [(.int .i64 0), (.int .i64 0)]), true⟩
noncomputable def ty27 : TI := ⟨.slice 136, 1, 24, false, some .nils, false⟩
noncomputable def ty28 : TI := ⟨.struct #[⟨ "Amount", 3, 0, false, "", "", 0⟩, ⟨ "Slew", 3, 1, false, "", "", 8⟩, ⟨ "Aid", 26, 2, false, "", "", 16⟩, ⟨ "Yield", 26, 4, false, "", "", 32⟩, ⟨ "Bands", 27, 6, false, "", "", 48⟩], 7, 72, true, some (.agg [(.int .i64 0), (.int .i64 0), (.int .i64 0), (.int .i64 0), (.int .i64 0), (.int .i64 0), .nils]), false⟩
noncomputable def ty29 : TI := ⟨.struct #[⟨ "Amount", 3, 0, false, "", "", 0⟩, ⟨ "Slew", 3, 1, false, "", "", 8⟩, ⟨ "Aid", 26, 2, false, "", "", 16⟩, ⟨ "Yield", 26, 4, false, "", "", 32⟩, ⟨ "Bands", 27, 6, false, "", "", 48⟩], 7, 72, true, some (.agg [(.int .i64 0), (.int .i64 0), (.int .i64 0), (.int .i64 0), (.int .i64 0), (.int .i64 0), .nils]), false⟩
noncomputable def ty30 : TI := ⟨.func #[23] #[29] false, 1, 8, false, some .nilf, false⟩
noncomputable def ty31 : TI := ⟨.slice 52, 1, 24, false, some .nils, false⟩
noncomputable def ty32 : TI := ⟨.func #[23, 3, 3] #[31] false, 1, 8, false, some .nilf, false⟩
noncomputable def ty33 : TI := ⟨.slice 71, 1, 24, false, some .nils, false⟩
noncomputable def ty34 : TI := ⟨.slice 140, 1, 24, false, some .nils, false⟩
noncomputable def ty35 : TI := ⟨.slice 128, 1, 24, false, some .nils, false⟩
noncomputable def ty36 : TI := ⟨.slice 61, 1, 24, false, some .nils, false⟩
noncomputable def ty37 : TI := ⟨.slice 142, 1, 24, false, some .nils, false⟩
noncomputable def ty38 : TI := ⟨.struct #[⟨ "Vessels", 33, 0, false, "", "", 0⟩, ⟨ "Pipes", 34, 1, false, "", "", 24⟩, ⟨ "Pumps", 35, 2, false, "", "", 48⟩, ⟨ "Leaks", 36, 3, false, "", "", 72⟩, ⟨ "Getters", 37, 4, false, "", "", 96⟩], 5, 120, true, some (.agg [.nils, .nils, .nils, .nils, .nils]), false⟩
noncomputable def ty39 : TI := ⟨.struct #[⟨ "Vessels", 33, 0, false, "", "", 0⟩, ⟨ "Pipes", 34, 1, false, "", "", 24⟩, ⟨ "Pumps", 35, 2, false, "", "", 48⟩, ⟨ "Leaks", 36, 3, false, "", "", 72⟩, ⟨ "Getters", 37, 4, false, "", "", 96⟩], 5, 120, true, some (.agg [.nils, .nils, .nils, .nils, .nils]), false⟩
noncomputable def ty40 : TI := ⟨.func #[23] #[39] false, 1, 8, false, some .nilf, false⟩
noncomputable def ty41 : TI := ⟨.struct #[⟨ "Ticks", 3, 0, false, "", "", 0⟩, ⟨ "Heat", 3, 1, false, "", "", 8⟩, ⟨ "Shut", 22, 2, false, "", "", 16⟩, ⟨ "Flash", 4, 3, false, "", "", 40⟩], 4, 48, true, some (.agg [(.int .i64 0), (.int .i64 0), .nils, (.bool false)]), false⟩
noncomputable def ty42 : TI := ⟨.struct #[⟨ "Ticks", 3, 0, false, "", "", 0⟩, ⟨ "Heat", 3, 1, false, "", "", 8⟩, ⟨ "Shut", 22, 2, false, "", "", 16⟩, ⟨ "Flash", 4, 3, false, "", "", 40⟩], 4, 48, true, some (.agg [(.int .i64 0), (.int .i64 0), .nils, (.bool false)]), false⟩
noncomputable def ty43 : TI := ⟨.func #[23, 39, 3] #[42] false, 1, 8, false, some .nilf, false⟩
noncomputable def ty44 : TI := ⟨.func #[3] #[3] false, 1, 8, false, some .nilf, false⟩
noncomputable def ty45 : TI := ⟨.struct #[⟨ "Carbonate", 26, 0, false, "", "", 0⟩, ⟨ "Oxide", 26, 2, false, "", "", 16⟩, ⟨ "Barium", 26, 4, false, "", "", 32⟩, ⟨ "Lost", 26, 6, false, "", "", 48⟩, ⟨ "Gas", 26, 8, false, "", "", 64⟩, ⟨ "Wear", 26, 10, false, "", "", 80⟩, ⟨ "Heat", 3, 12, false, "", "", 96⟩], 13, 104, true, some (.agg [(.int .i64 0), (.int .i64 0), (.int .i64 0), (.int .i64 0), (.int .i64 0), (.int .i64 0), (.int .i64 0), (.int .i64 0), (.int .i64 0), (.int .i64 0), (.int .i64 0), (.int .i64 0), (.int .i64 0)]), true⟩
noncomputable def ty46 : TI := ⟨.struct #[⟨ "Carbonate", 26, 0, false, "", "", 0⟩, ⟨ "Oxide", 26, 2, false, "", "", 16⟩, ⟨ "Barium", 26, 4, false, "", "", 32⟩, ⟨ "Lost", 26, 6, false, "", "", 48⟩, ⟨ "Gas", 26, 8, false, "", "", 64⟩, ⟨ "Wear", 26, 10, false, "", "", 80⟩, ⟨ "Heat", 3, 12, false, "", "", 96⟩], 13, 104, true, some (.agg [(.int .i64 0), (.int .i64 0), (.int .i64 0), (.int .i64 0), (.int .i64 0), (.int .i64 0), (.int .i64 0), (.int .i64 0), (.int .i64 0), (.int .i64 0), (.int .i64 0), (.int .i64 0), (.int .i64 0)]), true⟩
noncomputable def ty47 : TI := ⟨.int .i64, 1, 8, false, some (.int .i64 0), false⟩
noncomputable def ty49 : TI := ⟨.func #[29] #[46, 47] false, 1, 8, false, some .nilf, false⟩
noncomputable def ty50 : TI := ⟨.slice 26, 1, 24, false, some .nils, false⟩
noncomputable def ty51 : TI := ⟨.struct #[⟨ "Ticks", 3, 0, false, "", "", 0⟩, ⟨ "Heat", 3, 1, false, "", "", 8⟩, ⟨ "Current", 3, 2, false, "", "", 16⟩], 3, 24, true, some (.agg [(.int .i64 0), (.int .i64 0), (.int .i64 0)]), true⟩
noncomputable def ty52 : TI := ⟨.struct #[⟨ "Ticks", 3, 0, false, "", "", 0⟩, ⟨ "Heat", 3, 1, false, "", "", 8⟩, ⟨ "Current", 3, 2, false, "", "", 16⟩], 3, 24, true, some (.agg [(.int .i64 0), (.int .i64 0), (.int .i64 0)]), true⟩
noncomputable def ty53 : TI := ⟨.func #[29, 46, 3, 3] #[46, 47] false, 1, 8, false, some .nilf, false⟩
noncomputable def ty54 : TI := ⟨.func #[3, 3] #[26] false, 1, 8, false, some .nilf, false⟩
noncomputable def ty55 : TI := ⟨.struct #[⟨ "Free", 50, 0, false, "", "", 0⟩, ⟨ "Bound", 50, 1, false, "", "", 24⟩, ⟨ "Room", 50, 2, false, "", "", 48⟩, ⟨ "Most", 3, 3, false, "", "", 72⟩, ⟨ "Flashed", 4, 4, false, "", "", 80⟩], 5, 88, true, some (.agg [.nils, .nils, .nils, (.int .i64 0), (.bool false)]), false⟩
noncomputable def ty56 : TI := ⟨.struct #[⟨ "Free", 50, 0, false, "", "", 0⟩, ⟨ "Bound", 50, 1, false, "", "", 24⟩, ⟨ "Room", 50, 2, false, "", "", 48⟩, ⟨ "Most", 3, 3, false, "", "", 72⟩, ⟨ "Flashed", 4, 4, false, "", "", 80⟩], 5, 88, true, some (.agg [.nils, .nils, .nils, (.int .i64 0), (.bool false)]), false⟩
noncomputable def ty58 : TI := ⟨.func #[39] #[56, 47] false, 1, 8, false, some .nilf, false⟩
noncomputable def ty59 : TI := ⟨.func #[39] #[39] false, 1, 8, false, some .nilf, false⟩
noncomputable def ty60 : TI := ⟨.struct #[⟨ "At", 3, 0, false, "", "", 0⟩, ⟨ "Gas", 26, 1, false, "", "", 8⟩], 3, 24, true, some (.agg [(.int .i64 0), (.int .i64 0), (.int .i64 0)]), true⟩
noncomputable def ty61 : TI := ⟨.struct #[⟨ "At", 3, 0, false, "", "", 0⟩, ⟨ "Gas", 26, 1, false, "", "", 8⟩], 3, 24, true, some (.agg [(.int .i64 0), (.int .i64 0), (.int .i64 0)]), true⟩
noncomputable def ty62 : TI := ⟨.func #[39, 56, 42] #[56, 47] false, 1, 8, false, some .nilf, false⟩
noncomputable def ty63 : TI := ⟨.func #[56, 56] #[4] false, 1, 8, false, some .nilf, false⟩
noncomputable def ty64 : TI := ⟨.func #[] #[4] false, 1, 8, false, some .nilf, false⟩
noncomputable def ty65 : TI := ⟨.func #[22] #[4] false, 1, 8, false, some .nilf, false⟩
noncomputable def ty66 : TI := ⟨.func #[3, 3] #[3] false, 1, 8, false, some .nilf, false⟩
noncomputable def ty67 : TI := ⟨.func #[] #[39] false, 1, 8, false, some .nilf, false⟩
noncomputable def ty68 : TI := ⟨.func #[3] #[26] false, 1, 8, false, some .nilf, false⟩
noncomputable def ty69 : TI := ⟨.slice 138, 1, 24, false, some .nils, false⟩
noncomputable def ty70 : TI := ⟨.struct #[⟨ "Volume", 3, 0, false, "", "", 0⟩, ⟨ "Free", 26, 1, false, "", "", 8⟩, ⟨ "Bound", 26, 3, false, "", "", 24⟩, ⟨ "Bands", 69, 5, false, "", "", 40⟩], 6, 64, true, some (.agg [(.int .i64 0), (.int .i64 0), (.int .i64 0), (.int .i64 0), (.int .i64 0), .nils]), false⟩
noncomputable def ty71 : TI := ⟨.struct #[⟨ "Volume", 3, 0, false, "", "", 0⟩, ⟨ "Free", 26, 1, false, "", "", 8⟩, ⟨ "Bound", 26, 3, false, "", "", 24⟩, ⟨ "Bands", 69, 5, false, "", "", 40⟩], 6, 64, true, some (.agg [(.int .i64 0), (.int .i64 0), (.int .i64 0), (.int .i64 0), (.int .i64 0), .nils]), false⟩
noncomputable def ty72 : TI := ⟨.func #[39, 73] #[56, 47] false, 1, 8, false, some .nilf, false⟩
noncomputable def ty73 : TI := ⟨.slice 42, 1, 24, false, some .nils, false⟩
noncomputable def ty74 : TI := ⟨.func #[3, 3] #[4] false, 1, 8, false, some .nilf, false⟩
noncomputable def ty75 : TI := ⟨.slice 84, 1, 24, false, some .nils, false⟩
noncomputable def ty76 : TI := ⟨.struct #[⟨ "Suspects", 3, 0, false, "", "", 0⟩, ⟨ "Trials", 75, 1, false, "", "", 8⟩], 2, 32, true, some (.agg [(.int .i64 0), .nils]), false⟩
noncomputable def ty77 : TI := ⟨.struct #[⟨ "Suspects", 3, 0, false, "", "", 0⟩, ⟨ "Trials", 75, 1, false, "", "", 8⟩], 2, 32, true, some (.agg [(.int .i64 0), .nils]), false⟩
noncomputable def ty78 : TI := ⟨.func #[23, 3, 3] #[77] false, 1, 8, false, some .nilf, false⟩
noncomputable def ty80 : TI := ⟨.func #[77, 22] #[3, 3, 47] false, 1, 8, false, some .nilf, false⟩
noncomputable def ty81 : TI := ⟨.func #[3] #[22] false, 1, 8, false, some .nilf, false⟩
noncomputable def ty82 : TI := ⟨.func #[77, 22] #[22] false, 1, 8, false, some .nilf, false⟩
noncomputable def ty83 : TI := ⟨.struct #[⟨ "Of", 22, 0, false, "", "", 0⟩, ⟨ "Cost", 3, 1, false, "", "", 24⟩], 2, 32, true, some (.agg [.nils, (.int .i64 0)]), false⟩
noncomputable def ty84 : TI := ⟨.struct #[⟨ "Of", 22, 0, false, "", "", 0⟩, ⟨ "Cost", 3, 1, false, "", "", 24⟩], 2, 32, true, some (.agg [.nils, (.int .i64 0)]), false⟩
noncomputable def ty85 : TI := ⟨.func #[3] #[4] false, 1, 8, false, some .nilf, false⟩
noncomputable def ty86 : TI := ⟨.pointer 84, 1, 8, false, some .nilp, false⟩
noncomputable def ty87 : TI := ⟨.func #[23, 39] #[73] false, 1, 8, false, some .nilf, false⟩
noncomputable def ty89 : TI := ⟨.func #[56] #[3, 3] false, 1, 8, false, some .nilf, false⟩
noncomputable def ty90 : TI := ⟨.func #[39] #[4] false, 1, 8, false, some .nilf, false⟩
noncomputable def ty91 : TI := ⟨.slice 39, 1, 24, false, some .nils, false⟩
noncomputable def ty92 : TI := ⟨.func #[39] #[47] false, 1, 8, false, some .nilf, false⟩
noncomputable def ty93 : TI := ⟨.func #[39, 42] #[47] false, 1, 8, false, some .nilf, false⟩
noncomputable def ty94 : TI := ⟨.func #[39, 42, 22] #[4] false, 1, 8, false, some .nilf, false⟩
noncomputable def ty95 : TI := ⟨.func #[77] #[4] false, 1, 8, false, some .nilf, false⟩
noncomputable def ty96 : TI := ⟨.slice 77, 1, 24, false, some .nils, false⟩
noncomputable def ty97 : TI := ⟨.slice 22, 1, 24, false, some .nils, false⟩
noncomputable def ty98 : TI := ⟨.slice 105, 1, 24, false, some .nils, false⟩
noncomputable def ty100 : TI := ⟨.func #[77, 3] #[98, 3, 47] false, 1, 8, false, some .nilf, false⟩
noncomputable def ty101 : TI := ⟨.func #[77] #[47] false, 1, 8, false, some .nilf, false⟩
noncomputable def ty102 : TI := ⟨.func #[98, 98] #[4] false, 1, 8, false, some .nilf, false⟩
noncomputable def ty103 : TI := ⟨.func #[77, 22, 3, 22] #[4] false, 1, 8, false, some .nilf, false⟩
noncomputable def ty104 : TI := ⟨.struct #[⟨ "Trial", 3, 0, false, "", "", 0⟩, ⟨ "In", 4, 1, false, "", "", 8⟩], 2, 16, true, some (.agg [(.int .i64 0), (.bool false)]), true⟩
noncomputable def ty105 : TI := ⟨.struct #[⟨ "Trial", 3, 0, false, "", "", 0⟩, ⟨ "In", 4, 1, false, "", "", 8⟩], 2, 16, true, some (.agg [(.int .i64 0), (.bool false)]), true⟩
noncomputable def ty106 : TI := ⟨.func #[22, 3] #[4] false, 1, 8, false, some .nilf, false⟩
noncomputable def ty107 : TI := ⟨.func #[22, 22] #[4] false, 1, 8, false, some .nilf, false⟩
noncomputable def ty108 : TI := ⟨.func #[73] #[4] false, 1, 8, false, some .nilf, false⟩
noncomputable def ty109 : TI := ⟨.slice 73, 1, 24, false, some .nils, false⟩
noncomputable def ty111 : TI := ⟨.func #[39, 73, 3] #[3, 47] false, 1, 8, false, some .nilf, false⟩
noncomputable def ty112 : TI := ⟨.func #[39, 73, 3, 3] #[3, 47] false, 1, 8, false, some .nilf, false⟩
noncomputable def ty113 : TI := ⟨.func #[39, 73, 3, 3, 22] #[4] false, 1, 8, false, some .nilf, false⟩
noncomputable def ty114 : TI := ⟨.func #[56] #[4] false, 1, 8, false, some .nilf, false⟩
noncomputable def ty115 : TI := ⟨.func #[23, 39] #[56] false, 1, 8, false, some .nilf, false⟩
noncomputable def ty116 : TI := ⟨.slice 56, 1, 24, false, some .nils, false⟩
noncomputable def ty117 : TI := ⟨.func #[39, 56, 42, 22] #[4] false, 1, 8, false, some .nilf, false⟩
noncomputable def ty118 : TI := ⟨.func #[39, 56] #[47] false, 1, 8, false, some .nilf, false⟩
noncomputable def ty120 : TI := ⟨.func #[39, 56, 3] #[26, 47] false, 1, 8, false, some .nilf, false⟩
noncomputable def ty121 : TI := ⟨.func #[39, 56, 3, 3] #[3, 47] false, 1, 8, false, some .nilf, false⟩
noncomputable def ty122 : TI := ⟨.func #[39, 56, 3, 3, 22] #[4] false, 1, 8, false, some .nilf, false⟩
noncomputable def ty123 : TI := ⟨.func #[23, 39] #[39] false, 1, 8, false, some .nilf, false⟩
noncomputable def ty124 : TI := ⟨.func #[23, 56] #[56] false, 1, 8, false, some .nilf, false⟩
noncomputable def ty125 : TI := ⟨.func #[26, 26] #[4] false, 1, 8, false, some .nilf, false⟩
noncomputable def ty126 : TI := ⟨.func #[22, 3, 3] #[4] false, 1, 8, false, some .nilf, false⟩
noncomputable def ty127 : TI := ⟨.struct #[⟨ "At", 3, 0, false, "", "", 0⟩, ⟨ "Part", 26, 1, false, "", "", 8⟩], 3, 24, true, some (.agg [(.int .i64 0), (.int .i64 0), (.int .i64 0)]), true⟩
noncomputable def ty128 : TI := ⟨.struct #[⟨ "At", 3, 0, false, "", "", 0⟩, ⟨ "Part", 26, 1, false, "", "", 8⟩], 3, 24, true, some (.agg [(.int .i64 0), (.int .i64 0), (.int .i64 0)]), true⟩
noncomputable def ty129 : TI := ⟨.func #[] #[77] false, 1, 8, false, some .nilf, false⟩
noncomputable def ty130 : TI := ⟨.int .u64, 1, 8, false, some (.int .u64 0), false⟩
noncomputable def ty131 : TI := ⟨.struct #[⟨ "word", 130, 0, false, "", "thermion/thermionkit", 0⟩], 1, 8, true, some (.agg [(.int .u64 0)]), true⟩
noncomputable def ty132 : TI := ⟨.struct #[⟨ "word", 130, 0, false, "", "thermion/thermionkit", 0⟩], 1, 8, true, some (.agg [(.int .u64 0)]), true⟩
noncomputable def ty133 : TI := ⟨.func #[] #[130] false, 1, 8, false, some .nilf, false⟩
noncomputable def ty134 : TI := ⟨.func #[23, 3] #[26] false, 1, 8, false, some .nilf, false⟩
noncomputable def ty135 : TI := ⟨.struct #[⟨ "From", 3, 0, false, "", "", 0⟩, ⟨ "Convert", 26, 1, false, "", "", 8⟩, ⟨ "Reduce", 26, 3, false, "", "", 24⟩, ⟨ "Evaporate", 26, 5, false, "", "", 40⟩, ⟨ "Sinter", 26, 7, false, "", "", 56⟩], 9, 72, true, some (.agg [(.int .i64 0), (.int .i64 0), (.int .i64 0), (.int .i64 0), (.int .i64 0), (.int .i64 0), (.int .i64 0), (.int .i64 0), (.int .i64 0)]), true⟩
noncomputable def ty136 : TI := ⟨.struct #[⟨ "From", 3, 0, false, "", "", 0⟩, ⟨ "Convert", 26, 1, false, "", "", 8⟩, ⟨ "Reduce", 26, 3, false, "", "", 24⟩, ⟨ "Evaporate", 26, 5, false, "", "", 40⟩, ⟨ "Sinter", 26, 7, false, "", "", 56⟩], 9, 72, true, some (.agg [(.int .i64 0), (.int .i64 0), (.int .i64 0), (.int .i64 0), (.int .i64 0), (.int .i64 0), (.int .i64 0), (.int .i64 0), (.int .i64 0)]), true⟩
noncomputable def ty137 : TI := ⟨.struct #[⟨ "From", 3, 0, false, "", "", 0⟩, ⟨ "Rate", 26, 1, false, "", "", 8⟩], 3, 24, true, some (.agg [(.int .i64 0), (.int .i64 0), (.int .i64 0)]), true⟩
noncomputable def ty138 : TI := ⟨.struct #[⟨ "From", 3, 0, false, "", "", 0⟩, ⟨ "Rate", 26, 1, false, "", "", 8⟩], 3, 24, true, some (.agg [(.int .i64 0), (.int .i64 0), (.int .i64 0)]), true⟩
noncomputable def ty139 : TI := ⟨.struct #[⟨ "A", 3, 0, false, "", "", 0⟩, ⟨ "B", 3, 1, false, "", "", 8⟩, ⟨ "Out", 26, 2, false, "", "", 16⟩, ⟨ "Back", 26, 4, false, "", "", 32⟩], 6, 48, true, some (.agg [(.int .i64 0), (.int .i64 0), (.int .i64 0), (.int .i64 0), (.int .i64 0), (.int .i64 0)]), true⟩
noncomputable def ty140 : TI := ⟨.struct #[⟨ "A", 3, 0, false, "", "", 0⟩, ⟨ "B", 3, 1, false, "", "", 8⟩, ⟨ "Out", 26, 2, false, "", "", 16⟩, ⟨ "Back", 26, 4, false, "", "", 32⟩], 6, 48, true, some (.agg [(.int .i64 0), (.int .i64 0), (.int .i64 0), (.int .i64 0), (.int .i64 0), (.int .i64 0)]), true⟩
noncomputable def ty141 : TI := ⟨.struct #[⟨ "At", 3, 0, false, "", "", 0⟩, ⟨ "Part", 26, 1, false, "", "", 8⟩, ⟨ "Room", 26, 3, false, "", "", 24⟩], 5, 40, true, some (.agg [(.int .i64 0), (.int .i64 0), (.int .i64 0), (.int .i64 0), (.int .i64 0)]), true⟩
noncomputable def ty142 : TI := ⟨.struct #[⟨ "At", 3, 0, false, "", "", 0⟩, ⟨ "Part", 26, 1, false, "", "", 8⟩, ⟨ "Room", 26, 3, false, "", "", 24⟩], 5, 40, true, some (.agg [(.int .i64 0), (.int .i64 0), (.int .i64 0), (.int .i64 0), (.int .i64 0)]), true⟩
noncomputable def ty143 : TI := ⟨.func #[29] #[47] false, 1, 8, false, some .nilf, false⟩
noncomputable def ty144 : TI := ⟨.func #[29] #[46] false, 1, 8, false, some .nilf, false⟩
noncomputable def ty145 : TI := ⟨.func #[29, 46] #[47] false, 1, 8, false, some .nilf, false⟩
noncomputable def ty146 : TI := ⟨.func #[29, 46, 3, 3] #[46] false, 1, 8, false, some .nilf, false⟩
noncomputable def ty147 : TI := ⟨.func #[39] #[56] false, 1, 8, false, some .nilf, false⟩
noncomputable def ty148 : TI := ⟨.pointer 151, 1, 8, false, some .nilp, false⟩
noncomputable def ty149 : TI := ⟨.func #[56] #[56] false, 1, 8, false, some .nilf, false⟩
noncomputable def ty150 : TI := ⟨.struct #[⟨ "v", 39, 0, false, "", "thermion/pump", 0⟩, ⟨ "g", 56, 5, false, "", "thermion/pump", 120⟩], 10, 208, true, some (.agg [.nils, .nils, .nils, .nils, .nils, .nils, .nils, .nils, (.int .i64 0), (.bool false)]), false⟩
noncomputable def ty151 : TI := ⟨.struct #[⟨ "v", 39, 0, false, "", "thermion/pump", 0⟩, ⟨ "g", 56, 5, false, "", "thermion/pump", 120⟩], 10, 208, true, some (.agg [.nils, .nils, .nils, .nils, .nils, .nils, .nils, .nils, (.int .i64 0), (.bool false)]), false⟩
noncomputable def ty152 : TI := ⟨.func #[42] #[] false, 1, 8, false, some .nilf, false⟩
noncomputable def ty153 : TI := ⟨.func #[39, 73] #[47] false, 1, 8, false, some .nilf, false⟩
noncomputable def ty154 : TI := ⟨.func #[212] #[] false, 1, 8, false, some .nilf, false⟩
noncomputable def ty155 : TI := ⟨.func #[212] #[] false, 1, 8, false, some .nilf, false⟩
noncomputable def ty156 : TI := ⟨.func #[39, 73] #[155] false, 1, 8, false, some .nilf, false⟩
noncomputable def ty157 : TI := ⟨.func #[50, 50] #[4] false, 1, 8, false, some .nilf, false⟩
noncomputable def ty158 : TI := ⟨.int .u64, 1, 8, false, some (.int .u64 0), false⟩
noncomputable def ty160 : TI := ⟨.func #[3, 22] #[158, 47] false, 1, 8, false, some .nilf, false⟩
noncomputable def ty161 : TI := ⟨.struct #[⟨ "cost", 3, 0, false, "", "thermion/pump", 0⟩, ⟨ "trial", 3, 1, false, "", "thermion/pump", 8⟩], 2, 16, true, some (.agg [(.int .i64 0), (.int .i64 0)]), true⟩
noncomputable def ty162 : TI := ⟨.struct #[⟨ "cost", 3, 0, false, "", "thermion/pump", 0⟩, ⟨ "trial", 3, 1, false, "", "thermion/pump", 8⟩], 2, 16, true, some (.agg [(.int .i64 0), (.int .i64 0)]), true⟩
noncomputable def ty163 : TI := ⟨.pointer 193, 1, 8, false, some .nilp, false⟩
noncomputable def ty164 : TI := ⟨.func #[77] #[163] false, 1, 8, false, some .nilf, false⟩
noncomputable def ty165 : TI := ⟨.func #[158] #[162] false, 1, 8, false, some .nilf, false⟩
noncomputable def ty166 : TI := ⟨.func #[3, 3, 3] #[4] false, 1, 8, false, some .nilf, false⟩
noncomputable def ty167 : TI := ⟨.func #[26, 3] #[47] false, 1, 8, false, some .nilf, false⟩
noncomputable def ty168 : TI := ⟨.func #[3, 26, 3] #[47] false, 1, 8, false, some .nilf, false⟩
noncomputable def ty169 : TI := ⟨.func #[140] #[47] false, 1, 8, false, some .nilf, false⟩
noncomputable def ty170 : TI := ⟨.func #[128] #[47] false, 1, 8, false, some .nilf, false⟩
noncomputable def ty171 : TI := ⟨.func #[61] #[47] false, 1, 8, false, some .nilf, false⟩
noncomputable def ty172 : TI := ⟨.func #[142] #[47] false, 1, 8, false, some .nilf, false⟩
noncomputable def ty173 : TI := ⟨.func #[214] #[47] true, 1, 8, false, some .nilf, false⟩
noncomputable def ty174 : TI := ⟨.func #[] #[47] false, 1, 8, false, some .nilf, false⟩
noncomputable def ty175 : TI := ⟨.func #[33, 176] #[174] false, 1, 8, false, some .nilf, false⟩
noncomputable def ty176 : TI := ⟨.func #[71] #[47] false, 1, 8, false, some .nilf, false⟩
noncomputable def ty177 : TI := ⟨.func #[34, 169] #[174] false, 1, 8, false, some .nilf, false⟩
noncomputable def ty178 : TI := ⟨.func #[35, 170] #[174] false, 1, 8, false, some .nilf, false⟩
noncomputable def ty179 : TI := ⟨.func #[36, 171] #[174] false, 1, 8, false, some .nilf, false⟩
noncomputable def ty180 : TI := ⟨.func #[37, 172] #[174] false, 1, 8, false, some .nilf, false⟩
noncomputable def ty181 : TI := ⟨.map 3 26, 1, 8, false, some .nilm, false⟩
noncomputable def ty182 : TI := ⟨.func #[39, 22] #[181] false, 1, 8, false, some .nilf, false⟩
noncomputable def ty183 : TI := ⟨.func #[39, 3, 22] #[26] false, 1, 8, false, some .nilf, false⟩
noncomputable def ty184 : TI := ⟨.func #[77, 22] #[47] false, 1, 8, false, some .nilf, false⟩
noncomputable def ty185 : TI := ⟨.struct #[⟨ "cost", 22, 0, false, "", "thermion/thermionref06", 0⟩, ⟨ "trial", 22, 1, false, "", "thermion/thermionref06", 24⟩], 2, 48, true, some (.agg [.nils, .nils]), false⟩
noncomputable def ty186 : TI := ⟨.struct #[⟨ "cost", 22, 0, false, "", "thermion/thermionref06", 0⟩, ⟨ "trial", 22, 1, false, "", "thermion/thermionref06", 24⟩], 2, 48, true, some (.agg [.nils, .nils]), false⟩
noncomputable def ty187 : TI := ⟨.func #[77] #[186] false, 1, 8, false, some .nilf, false⟩
noncomputable def ty188 : TI := ⟨.func #[22] #[3] false, 1, 8, false, some .nilf, false⟩
noncomputable def ty189 : TI := ⟨.func #[158] #[3] false, 1, 8, false, some .nilf, false⟩
noncomputable def ty190 : TI := ⟨.slice 158, 1, 24, false, some .nils, false⟩
noncomputable def ty191 : TI := ⟨.map 158 162, 1, 8, false, some .nilm, false⟩
noncomputable def ty192 : TI := ⟨.struct #[⟨ "h", 77, 0, false, "", "thermion/pump", 0⟩, ⟨ "of", 190, 2, false, "", "thermion/pump", 32⟩, ⟨ "known", 191, 3, false, "", "thermion/pump", 56⟩], 4, 64, true, some (.agg [(.int .i64 0), .nils, .nils, .nilm]), false⟩
noncomputable def ty193 : TI := ⟨.struct #[⟨ "h", 77, 0, false, "", "thermion/pump", 0⟩, ⟨ "of", 190, 2, false, "", "thermion/pump", 32⟩, ⟨ "known", 191, 3, false, "", "thermion/pump", 56⟩], 4, 64, true, some (.agg [(.int .i64 0), .nils, .nils, .nilm]), false⟩
noncomputable def ty194 : TI := ⟨.func #[39, 56, 42] #[56] false, 1, 8, false, some .nilf, false⟩
noncomputable def ty195 : TI := ⟨.func #[39, 56, 3] #[26] false, 1, 8, false, some .nilf, false⟩
noncomputable def ty196 : TI := ⟨.func #[226] #[50] true, 1, 8, false, some .nilf, false⟩
noncomputable def ty197 : TI := ⟨.pointer 128, 1, 8, false, some .nilp, false⟩
noncomputable def ty198 : TI := ⟨.pointer 71, 1, 8, false, some .nilp, false⟩
noncomputable def ty199 : TI := ⟨.func #[23, 26] #[26] false, 1, 8, false, some .nilf, false⟩
noncomputable def ty200 : TI := ⟨.func #[3, 50] #[47] true, 1, 8, false, some .nilf, false⟩
noncomputable def ty201 : TI := ⟨.pointer 203, 1, 8, false, some .nilp, false⟩
noncomputable def ty202 : TI := ⟨.struct #[⟨ "was", 46, 0, false, "", "thermion/cathode", 0⟩, ⟨ "now", 46, 13, false, "", "thermion/cathode", 104⟩, ⟨ "b", 136, 26, false, "", "thermion/cathode", 208⟩], 35, 280, true, some (.agg [(.int .i64 0), (.int .i64 0), (.int .i64 0), (.int .i64 0), (.int .i64 0), (.int .i64 0), (.int .i64 0), (.int .i64 0), (.int .i64 0), (.int .i64 0), (.int .i64 0), (.int .i64 0), (.int .i64 0), (.int .i64 0), (.int .i64 0), (.int .i64 0), (.int .i64 0), (.int .i64 0), (.int .i64 0), (.int .i64 0), (.int .i64 0), (.int .i64 0), (.int .i64 0), (.int .i64 0), (.int .i64 0), (.int .i64 0), (.int .i64 0), (.int .i64 0), (.int .i64 0), (.int .i64 0), (.int .i64 0), (.int .i64 0), (.int .i64 0), (.int .i64 0), (.int .i64 0)]), true⟩
noncomputable def ty203 : TI := ⟨.struct #[⟨ "was", 46, 0, false, "", "thermion/cathode", 0⟩, ⟨ "now", 46, 13, false, "", "thermion/cathode", 104⟩, ⟨ "b", 136, 26, false, "", "thermion/cathode", 208⟩], 35, 280, true, some (.agg [(.int .i64 0), (.int .i64 0), (.int .i64 0), (.int .i64 0), (.int .i64 0), (.int .i64 0), (.int .i64 0), (.int .i64 0), (.int .i64 0), (.int .i64 0), (.int .i64 0), (.int .i64 0), (.int .i64 0), (.int .i64 0), (.int .i64 0), (.int .i64 0), (.int .i64 0), (.int .i64 0), (.int .i64 0), (.int .i64 0), (.int .i64 0), (.int .i64 0), (.int .i64 0), (.int .i64 0), (.int .i64 0), (.int .i64 0), (.int .i64 0), (.int .i64 0), (.int .i64 0), (.int .i64 0), (.int .i64 0), (.int .i64 0), (.int .i64 0), (.int .i64 0), (.int .i64 0)]), true⟩
noncomputable def ty204 : TI := ⟨.func #[29, 3, 3] #[3] false, 1, 8, false, some .nilf, false⟩
noncomputable def ty205 : TI := ⟨.func #[29, 3, 3] #[136] false, 1, 8, false, some .nilf, false⟩
noncomputable def ty206 : TI := ⟨.slice 1, 1, 24, false, some .nils, false⟩
noncomputable def ty207 : TI := ⟨.pointer 26, 1, 8, false, some .nilp, false⟩
noncomputable def ty208 : TI := ⟨.slice 207, 1, 24, false, some .nils, false⟩
noncomputable def ty209 : TI := ⟨.func #[50] #[50] false, 1, 8, false, some .nilf, false⟩
noncomputable def ty210 : TI := ⟨.func #[148, 42] #[] false, 1, 8, false, some .nilf, false⟩
noncomputable def ty211 : TI := ⟨.array 5 210, 5, 40, true, some (.agg [.nilf, .nilf, .nilf, .nilf, .nilf]), false⟩
noncomputable def ty212 : TI := ⟨.func #[148] #[4] false, 1, 8, false, some .nilf, false⟩
noncomputable def ty214 : TI := ⟨.slice 174, 1, 24, false, some .nils, false⟩
noncomputable def ty215 : TI := ⟨.array 2 26, 4, 32, true, some (.agg [(.int .i64 0), (.int .i64 0), (.int .i64 0), (.int .i64 0)]), true⟩
noncomputable def ty216 : TI := ⟨.func #[26, 26] #[26] false, 1, 8, false, some .nilf, false⟩
noncomputable def ty217 : TI := ⟨.func #[140, 3] #[47] false, 1, 8, false, some .nilf, false⟩
noncomputable def ty218 : TI := ⟨.func #[3, 3, 26, 3] #[47] false, 1, 8, false, some .nilf, false⟩
noncomputable def ty219 : TI := ⟨.func #[220] #[3] false, 1, 8, false, some .nilf, false⟩
noncomputable def ty220 : TI := ⟨.int .u32, 1, 4, false, some (.int .u32 0), false⟩
noncomputable def ty221 : TI := ⟨.func #[130] #[3] false, 1, 8, false, some .nilf, false⟩
noncomputable def ty222 : TI := ⟨.func #[39, 56, 3] #[] false, 1, 8, false, some .nilf, false⟩
noncomputable def ty223 : TI := ⟨.func #[39, 50, 22] #[50] false, 1, 8, false, some .nilf, false⟩
noncomputable def ty224 : TI := ⟨.func #[39, 56] #[] false, 1, 8, false, some .nilf, false⟩
noncomputable def ty225 : TI := ⟨.func #[50, 3] #[] false, 1, 8, false, some .nilf, false⟩
noncomputable def ty226 : TI := ⟨.slice 50, 1, 24, false, some .nils, false⟩
noncomputable def ty227 : TI := ⟨.func #[50, 3] #[50] false, 1, 8, false, some .nilf, false⟩
noncomputable def ty228 : TI := ⟨.func #[26] #[3] false, 1, 8, false, some .nilf, false⟩
noncomputable def ty229 : TI := ⟨.func #[3, 85] #[3] false, 1, 8, false, some .nilf, false⟩
noncomputable def ty230 : TI := ⟨.func #[3, 3, 26] #[] false, 1, 8, false, some .nilf, false⟩
noncomputable def ty231 : TI := ⟨.array 2 50, 2, 48, true, some (.agg [.nils, .nils]), false⟩
noncomputable def ty232 : TI := ⟨.func #[22, 3] #[3] false, 1, 8, false, some .nilf, false⟩
noncomputable def ty233 : TI := ⟨.func #[71, 3] #[26] false, 1, 8, false, some .nilf, false⟩
noncomputable def ty234 : TI := ⟨.func #[] #[9] false, 1, 8, false, some .nilf, false⟩
noncomputable def ty237 : TI := ⟨.array 0 16, 0, 0, true, some (.agg []), false⟩
noncomputable def ty240 : TI := ⟨.func #[] #[3] false, 1, 8, false, some .nilf, false⟩
noncomputable def ty241 : TI := ⟨.int .u8, 1, 1, false, some (.int .u8 0), false⟩
noncomputable def ty242 : TI := ⟨.int .u8, 1, 1, false, some (.int .u8 0), false⟩
noncomputable def ty243 : TI := ⟨.func #[249, 249] #[4] false, 1, 8, false, some .nilf, false⟩
noncomputable def ty244 : TI := ⟨.pointer 5, 1, 8, false, some .nilp, false⟩
noncomputable def ty245 : TI := ⟨.int .i32, 1, 4, false, some (.int .i32 0), false⟩
noncomputable def ty246 : TI := ⟨.int .i32, 1, 4, false, some (.int .i32 0), false⟩
noncomputable def ty247 : TI := ⟨.struct #[⟨ "Size_", 12, 0, false, "", "", 0⟩, ⟨ "PtrBytes", 12, 1, false, "", "", 8⟩, ⟨ "Hash", 220, 2, false, "", "", 16⟩, ⟨ "TFlag", 241, 3, false, "", "", 20⟩, ⟨ "Align_", 5, 4, false, "", "", 21⟩, ⟨ "FieldAlign_", 5, 5, false, "", "", 22⟩, ⟨ "Kind_", 242, 6, false, "", "", 23⟩, ⟨ "Equal", 243, 7, false, "", "", 24⟩, ⟨ "GCData", 244, 8, false, "", "", 32⟩, ⟨ "Str", 245, 9, false, "", "", 40⟩, ⟨ "PtrToThis", 246, 10, false, "", "", 44⟩], 11, 48, true, some (.agg [(.int .u64 0), (.int .u64 0), (.int .u32 0), (.int .u8 0), (.int .u8 0), (.int .u8 0), (.int .u8 0), .nilf, .nilp, (.int .i32 0), (.int .i32 0)]), false⟩
noncomputable def ty248 : TI := ⟨.struct #[⟨ "Size_", 12, 0, false, "", "", 0⟩, ⟨ "PtrBytes", 12, 1, false, "", "", 8⟩, ⟨ "Hash", 220, 2, false, "", "", 16⟩, ⟨ "TFlag", 241, 3, false, "", "", 20⟩, ⟨ "Align_", 5, 4, false, "", "", 21⟩, ⟨ "FieldAlign_", 5, 5, false, "", "", 22⟩, ⟨ "Kind_", 242, 6, false, "", "", 23⟩, ⟨ "Equal", 243, 7, false, "", "", 24⟩, ⟨ "GCData", 244, 8, false, "", "", 32⟩, ⟨ "Str", 245, 9, false, "", "", 40⟩, ⟨ "PtrToThis", 246, 10, false, "", "", 44⟩], 11, 48, true, some (.agg [(.int .u64 0), (.int .u64 0), (.int .u32 0), (.int .u8 0), (.int .u8 0), (.int .u8 0), (.int .u8 0), .nilf, .nilp, (.int .i32 0), (.int .i32 0)]), false⟩
noncomputable def tyT : NT TI := (.node 128 ty128 (.node 65 ty65 (.node 34 ty34 (.node 19 ty19 (.node 10 ty10 (.node 4 ty4 (.node 2 ty2 (.node 1 ty1 .leaf .leaf) (.node 3 ty3 .leaf .leaf)) (.node 6 ty6 (.node 5 ty5 .leaf .leaf) (.node 9 ty9 .leaf .leaf))) (.node 16 ty16 (.node 12 ty12 (.node 11 ty11 .leaf .leaf) (.node 15 ty15 .leaf .leaf)) (.node 18 ty18 (.node 17 ty17 .leaf .leaf) .leaf))) (.node 27 ty27 (.node 24 ty24 (.node 22 ty22 (.node 21 ty21 .leaf .leaf) (.node 23 ty23 .leaf .leaf)) (.node 26 ty26 (.node 25 ty25 .leaf .leaf) .leaf)) (.node 31 ty31 (.node 29 ty29 (.node 28 ty28 .leaf .leaf) (.node 30 ty30 .leaf .leaf)) (.node 33 ty33 (.node 32 ty32 .leaf .leaf) .leaf)))) (.node 50 ty50 (.node 42 ty42 (.node 38 ty38 (.node 36 ty36 (.node 35 ty35 .leaf .leaf) (.node 37 ty37 .leaf .leaf)) (.node 40 ty40 (.node 39 ty39 .leaf .leaf) (.node 41 ty41 .leaf .leaf))) (.node 46 ty46 (.node 44 ty44 (.node 43 ty43 .leaf .leaf) (.node 45 ty45 .leaf .leaf)) (.node 49 ty49 (.node 47 ty47 .leaf .leaf) .leaf))) (.node 58 ty58 (.node 54 ty54 (.node 52 ty52 (.node 51 ty51 .leaf .leaf) (.node 53 ty53 .leaf .leaf)) (.node 56 ty56 (.node 55 ty55 .leaf .leaf) .leaf)) (.node 62 ty62 (.node 60 ty60 (.node 59 ty59 .leaf .leaf) (.node 61 ty61 .leaf .leaf)) (.node 64 ty64 (.node 63 ty63 .leaf .leaf) .leaf))))) (.node 96 ty96 (.node 81 ty81 (.node 73 ty73 (.node 69 ty69 (.node 67 ty67 (.node 66 ty66 .leaf .leaf) (.node 68 ty68 .leaf .leaf)) (.node 71 ty71 (.node 70 ty70 .leaf .leaf) (.node 72 ty72 .leaf .leaf))) (.node 77 ty77 (.node 75 ty75 (.node 74 ty74 .leaf .leaf) (.node 76 ty76 .leaf .leaf)) (.node 80 ty80 (.node 78 ty78 .leaf .leaf) .leaf))) (.node 89 ty89 (.node 85 ty85 (.node 83 ty83 (.node 82 ty82 .leaf .leaf) (.node 84 ty84 .leaf .leaf)) (.node 87 ty87 (.node 86 ty86 .leaf .leaf) .leaf)) (.node 93 ty93 (.node 91 ty91 (.node 90 ty90 .leaf .leaf) (.node 92 ty92 .leaf .leaf)) (.node 95 ty95 (.node 94 ty94 .leaf .leaf) .leaf)))) (.node 113 ty113 (.node 105 ty105 (.node 101 ty101 (.node 98 ty98 (.node 97 ty97 .leaf .leaf) (.node 100 ty100 .leaf .leaf)) (.node 103 ty103 (.node 102 ty102 .leaf .leaf) (.node 104 ty104 .leaf .leaf))) (.node 109 ty109 (.node 107 ty107 (.node 106 ty106 .leaf .leaf) (.node 108 ty108 .leaf .leaf)) (.node 112 ty112 (.node 111 ty111 .leaf .leaf) .leaf))) (.node 121 ty121 (.node 117 ty117 (.node 115 ty115 (.node 114 ty114 .leaf .leaf) (.node 116 ty116 .leaf .leaf)) (.node 120 ty120 (.node 118 ty118 .leaf .leaf) .leaf)) (.node 125 ty125 (.node 123 ty123 (.node 122 ty122 .leaf .leaf) (.node 124 ty124 .leaf .leaf)) (.node 127 ty127 (.node 126 ty126 .leaf .leaf) .leaf)))))) (.node 187 ty187 (.node 157 ty157 (.node 143 ty143 (.node 136 ty136 (.node 132 ty132 (.node 130 ty130 (.node 129 ty129 .leaf .leaf) (.node 131 ty131 .leaf .leaf)) (.node 134 ty134 (.node 133 ty133 .leaf .leaf) (.node 135 ty135 .leaf .leaf))) (.node 140 ty140 (.node 138 ty138 (.node 137 ty137 .leaf .leaf) (.node 139 ty139 .leaf .leaf)) (.node 142 ty142 (.node 141 ty141 .leaf .leaf) .leaf))) (.node 150 ty150 (.node 147 ty147 (.node 145 ty145 (.node 144 ty144 .leaf .leaf) (.node 146 ty146 .leaf .leaf)) (.node 149 ty149 (.node 148 ty148 .leaf .leaf) .leaf)) (.node 154 ty154 (.node 152 ty152 (.node 151 ty151 .leaf .leaf) (.node 153 ty153 .leaf .leaf)) (.node 156 ty156 (.node 155 ty155 .leaf .leaf) .leaf)))) (.node 173 ty173 (.node 166 ty166 (.node 162 ty162 (.node 160 ty160 (.node 158 ty158 .leaf .leaf) (.node 161 ty161 .leaf .leaf)) (.node 164 ty164 (.node 163 ty163 .leaf .leaf) (.node 165 ty165 .leaf .leaf))) (.node 170 ty170 (.node 168 ty168 (.node 167 ty167 .leaf .leaf) (.node 169 ty169 .leaf .leaf)) (.node 172 ty172 (.node 171 ty171 .leaf .leaf) .leaf))) (.node 180 ty180 (.node 177 ty177 (.node 175 ty175 (.node 174 ty174 .leaf .leaf) (.node 176 ty176 .leaf .leaf)) (.node 179 ty179 (.node 178 ty178 .leaf .leaf) .leaf)) (.node 184 ty184 (.node 182 ty182 (.node 181 ty181 .leaf .leaf) (.node 183 ty183 .leaf .leaf)) (.node 186 ty186 (.node 185 ty185 .leaf .leaf) .leaf))))) (.node 217 ty217 (.node 202 ty202 (.node 195 ty195 (.node 191 ty191 (.node 189 ty189 (.node 188 ty188 .leaf .leaf) (.node 190 ty190 .leaf .leaf)) (.node 193 ty193 (.node 192 ty192 .leaf .leaf) (.node 194 ty194 .leaf .leaf))) (.node 199 ty199 (.node 197 ty197 (.node 196 ty196 .leaf .leaf) (.node 198 ty198 .leaf .leaf)) (.node 201 ty201 (.node 200 ty200 .leaf .leaf) .leaf))) (.node 209 ty209 (.node 206 ty206 (.node 204 ty204 (.node 203 ty203 .leaf .leaf) (.node 205 ty205 .leaf .leaf)) (.node 208 ty208 (.node 207 ty207 .leaf .leaf) .leaf)) (.node 214 ty214 (.node 211 ty211 (.node 210 ty210 .leaf .leaf) (.node 212 ty212 .leaf .leaf)) (.node 216 ty216 (.node 215 ty215 .leaf .leaf) .leaf)))) (.node 231 ty231 (.node 224 ty224 (.node 221 ty221 (.node 219 ty219 (.node 218 ty218 .leaf .leaf) (.node 220 ty220 .leaf .leaf)) (.node 223 ty223 (.node 222 ty222 .leaf .leaf) .leaf)) (.node 228 ty228 (.node 226 ty226 (.node 225 ty225 .leaf .leaf) (.node 227 ty227 .leaf .leaf)) (.node 230 ty230 (.node 229 ty229 .leaf .leaf) .leaf))) (.node 242 ty242 (.node 237 ty237 (.node 233 ty233 (.node 232 ty232 .leaf .leaf) (.node 234 ty234 .leaf .leaf)) (.node 241 ty241 (.node 240 ty240 .leaf .leaf) .leaf)) (.node 246 ty246 (.node 244 ty244 (.node 243 ty243 .leaf .leaf) (.node 245 ty245 .leaf .leaf)) (.node 248 ty248 (.node 247 ty247 .leaf .leaf) .leaf)))))))
noncomputable def fnT : NT Func := (.node 95 Try.f95 (.node 49 Try.f49 (.node 26 Try.f26 (.node 14 Try.f14 (.node 8 Try.f8 (.node 5 Try.f5 (.node 4 Try.f4 (.node 3 Try.f3 .leaf .leaf) .leaf) (.node 7 Try.f7 (.node 6 Try.f6 .leaf .leaf) .leaf)) (.node 11 Try.f11 (.node 10 Try.f10 (.node 9 Try.f9 .leaf .leaf) .leaf) (.node 13 Try.f13 (.node 12 Try.f12 .leaf .leaf) .leaf))) (.node 20 Try.f20 (.node 17 Try.f17 (.node 16 Try.f16 (.node 15 Try.f15 .leaf .leaf) .leaf) (.node 19 Try.f19 (.node 18 Try.f18 .leaf .leaf) .leaf)) (.node 23 Try.f23 (.node 22 Try.f22 (.node 21 Try.f21 .leaf .leaf) .leaf) (.node 25 Try.f25 (.node 24 Try.f24 .leaf .leaf) .leaf)))) (.node 38 Try.f38 (.node 32 Try.f32 (.node 29 Try.f29 (.node 28 Try.f28 (.node 27 Try.f27 .leaf .leaf) .leaf) (.node 31 Try.f31 (.node 30 Try.f30 .leaf .leaf) .leaf)) (.node 35 Try.f35 (.node 34 Try.f34 (.node 33 Try.f33 .leaf .leaf) .leaf) (.node 37 Try.f37 (.node 36 Try.f36 .leaf .leaf) .leaf))) (.node 44 Try.f44 (.node 41 Try.f41 (.node 40 Try.f40 (.node 39 Try.f39 .leaf .leaf) .leaf) (.node 43 Try.f43 (.node 42 Try.f42 .leaf .leaf) .leaf)) (.node 47 Try.f47 (.node 46 Try.f46 (.node 45 Try.f45 .leaf .leaf) .leaf) (.node 48 Try.f48 .leaf .leaf))))) (.node 72 Try.f72 (.node 61 Try.f61 (.node 55 Try.f55 (.node 52 Try.f52 (.node 51 Try.f51 (.node 50 Try.f50 .leaf .leaf) .leaf) (.node 54 Try.f54 (.node 53 Try.f53 .leaf .leaf) .leaf)) (.node 58 Try.f58 (.node 57 Try.f57 (.node 56 Try.f56 .leaf .leaf) .leaf) (.node 60 Try.f60 (.node 59 Try.f59 .leaf .leaf) .leaf))) (.node 67 Try.f67 (.node 64 Try.f64 (.node 63 Try.f63 (.node 62 Try.f62 .leaf .leaf) .leaf) (.node 66 Try.f66 (.node 65 Try.f65 .leaf .leaf) .leaf)) (.node 70 Try.f70 (.node 69 Try.f69 (.node 68 Try.f68 .leaf .leaf) .leaf) (.node 71 Try.f71 .leaf .leaf)))) (.node 84 Try.f84 (.node 78 Try.f78 (.node 75 Try.f75 (.node 74 Try.f74 (.node 73 Try.f73 .leaf .leaf) .leaf) (.node 77 Try.f77 (.node 76 Try.f76 .leaf .leaf) .leaf)) (.node 81 Try.f81 (.node 80 Try.f80 (.node 79 Try.f79 .leaf .leaf) .leaf) (.node 83 Try.f83 (.node 82 Try.f82 .leaf .leaf) .leaf))) (.node 90 Try.f90 (.node 87 Try.f87 (.node 86 Try.f86 (.node 85 Try.f85 .leaf .leaf) .leaf) (.node 89 Try.f89 (.node 88 Try.f88 .leaf .leaf) .leaf)) (.node 93 Try.f93 (.node 92 Try.f92 (.node 91 Try.f91 .leaf .leaf) .leaf) (.node 94 Try.f94 .leaf .leaf)))))) (.node 142 Try.f142 (.node 119 Try.f119 (.node 107 Try.f107 (.node 101 Try.f101 (.node 98 Try.f98 (.node 97 Try.f97 (.node 96 Try.f96 .leaf .leaf) .leaf) (.node 100 Try.f100 (.node 99 Try.f99 .leaf .leaf) .leaf)) (.node 104 Try.f104 (.node 103 Try.f103 (.node 102 Try.f102 .leaf .leaf) .leaf) (.node 106 Try.f106 (.node 105 Try.f105 .leaf .leaf) .leaf))) (.node 113 Try.f113 (.node 110 Try.f110 (.node 109 Try.f109 (.node 108 Try.f108 .leaf .leaf) .leaf) (.node 112 Try.f112 (.node 111 Try.f111 .leaf .leaf) .leaf)) (.node 116 Try.f116 (.node 115 Try.f115 (.node 114 Try.f114 .leaf .leaf) .leaf) (.node 118 Try.f118 (.node 117 Try.f117 .leaf .leaf) .leaf)))) (.node 131 Try.f131 (.node 125 Try.f125 (.node 122 Try.f122 (.node 121 Try.f121 (.node 120 Try.f120 .leaf .leaf) .leaf) (.node 124 Try.f124 (.node 123 Try.f123 .leaf .leaf) .leaf)) (.node 128 Try.f128 (.node 127 Try.f127 (.node 126 Try.f126 .leaf .leaf) .leaf) (.node 130 Try.f130 (.node 129 Try.f129 .leaf .leaf) .leaf))) (.node 137 Try.f137 (.node 134 Try.f134 (.node 133 Try.f133 (.node 132 Try.f132 .leaf .leaf) .leaf) (.node 136 Try.f136 (.node 135 Try.f135 .leaf .leaf) .leaf)) (.node 140 Try.f140 (.node 139 Try.f139 (.node 138 Try.f138 .leaf .leaf) .leaf) (.node 141 Try.f141 .leaf .leaf))))) (.node 165 Try.f165 (.node 154 Try.f154 (.node 148 Try.f148 (.node 145 Try.f145 (.node 144 Try.f144 (.node 143 Try.f143 .leaf .leaf) .leaf) (.node 147 Try.f147 (.node 146 Try.f146 .leaf .leaf) .leaf)) (.node 151 Try.f151 (.node 150 Try.f150 (.node 149 Try.f149 .leaf .leaf) .leaf) (.node 153 Try.f153 (.node 152 Try.f152 .leaf .leaf) .leaf))) (.node 160 Try.f160 (.node 157 Try.f157 (.node 156 Try.f156 (.node 155 Try.f155 .leaf .leaf) .leaf) (.node 159 Try.f159 (.node 158 Try.f158 .leaf .leaf) .leaf)) (.node 163 Try.f163 (.node 162 Try.f162 (.node 161 Try.f161 .leaf .leaf) .leaf) (.node 164 Try.f164 .leaf .leaf)))) (.node 177 Try.f177 (.node 171 Try.f171 (.node 168 Try.f168 (.node 167 Try.f167 (.node 166 Try.f166 .leaf .leaf) .leaf) (.node 170 Try.f170 (.node 169 Try.f169 .leaf .leaf) .leaf)) (.node 174 Try.f174 (.node 173 Try.f173 (.node 172 Try.f172 .leaf .leaf) .leaf) (.node 176 Try.f176 (.node 175 Try.f175 .leaf .leaf) .leaf))) (.node 183 Try.f183 (.node 180 Try.f180 (.node 179 Try.f179 (.node 178 Try.f178 .leaf .leaf) .leaf) (.node 182 Try.f182 (.node 181 Try.f181 .leaf .leaf) .leaf)) (.node 186 Try.f186 (.node 185 Try.f185 (.node 184 Try.f184 .leaf .leaf) .leaf) (.node 202 Try.f202 .leaf .leaf)))))))
noncomputable def mdT : NT Nat := (.node 91 2 (.node 59 2 (.node 47 2 (.node 36 2 (.node 33 1 (.node 32 2 (.node 28 2 .leaf .leaf) .leaf) (.node 34 2 .leaf .leaf)) (.node 41 2 (.node 39 1 (.node 38 2 .leaf .leaf) .leaf) (.node 46 2 .leaf .leaf))) (.node 53 2 (.node 51 2 (.node 50 2 (.node 49 2 .leaf .leaf) .leaf) (.node 52 2 .leaf .leaf)) (.node 55 2 (.node 54 2 .leaf .leaf) (.node 58 2 .leaf .leaf)))) (.node 72 2 (.node 65 2 (.node 62 2 (.node 61 2 (.node 60 2 .leaf .leaf) .leaf) (.node 63 2 .leaf .leaf)) (.node 68 2 (.node 67 2 (.node 66 2 .leaf .leaf) .leaf) (.node 69 2 .leaf .leaf))) (.node 77 2 (.node 75 2 (.node 74 2 (.node 73 2 .leaf .leaf) .leaf) (.node 76 2 .leaf .leaf)) (.node 82 1 (.node 81 2 .leaf .leaf) (.node 89 2 .leaf .leaf))))) (.node 132 2 (.node 121 2 (.node 105 2 (.node 100 2 (.node 98 2 (.node 95 2 .leaf .leaf) .leaf) (.node 101 2 .leaf .leaf)) (.node 119 2 (.node 113 2 (.node 106 2 .leaf .leaf) .leaf) (.node 120 2 .leaf .leaf))) (.node 127 2 (.node 125 2 (.node 123 2 (.node 122 2 .leaf .leaf) .leaf) (.node 126 2 .leaf .leaf)) (.node 129 2 (.node 128 2 .leaf .leaf) (.node 131 2 .leaf .leaf)))) (.node 165 2 (.node 161 2 (.node 159 2 (.node 158 2 (.node 134 2 .leaf .leaf) .leaf) (.node 160 2 .leaf .leaf)) (.node 163 2 (.node 162 2 .leaf .leaf) (.node 164 2 .leaf .leaf))) (.node 183 2 (.node 181 2 (.node 179 2 (.node 178 2 .leaf .leaf) .leaf) (.node 182 2 .leaf .leaf)) (.node 185 2 (.node 184 2 .leaf .leaf) (.node 186 2 .leaf .leaf))))))
noncomputable def cfg : Cfg := ⟨fnT, tyT, mdT⟩
end Go.Proofs.Ytgnpnfkncbnjnaa
namespace Go.Proofs.Ytgnpnfkncbnjnaa
open Go.Am
theorem tok1 : TyOk Try.prog 1 ty1 := tyOk_of (by kernel_rfl) (by kernel_rfl)
theorem tok2 : TyOk Try.prog 2 ty2 := tyOk_of (by kernel_rfl) (by kernel_rfl)
theorem tok3 : TyOk Try.prog 3 ty3 := tyOk_of (by kernel_rfl) (by kernel_rfl)
theorem tok4 : TyOk Try.prog 4 ty4 := tyOk_of (by kernel_rfl) (by kernel_rfl)
theorem tok5 : TyOk Try.prog 5 ty5 := tyOk_of (by kernel_rfl) (by kernel_rfl)
theorem tok6 : TyOk Try.prog 6 ty6 := tyOk_of (by kernel_rfl) (by kernel_rfl)
theorem tok9 : TyOk Try.prog 9 ty9 := tyOk_of (by kernel_rfl) (by kernel_rfl)
theorem tok10 : TyOk Try.prog 10 ty10 := tyOk_of (by kernel_rfl) (by kernel_rfl)
theorem tok11 : TyOk Try.prog 11 ty11 := tyOk_of (by kernel_rfl) (by kernel_rfl)
theorem tok12 : TyOk Try.prog 12 ty12 := tyOk_of (by kernel_rfl) (by kernel_rfl)
theorem tok15 : TyOk Try.prog 15 ty15 := tyOk_of (by kernel_rfl) (by kernel_rfl)
theorem tok16 : TyOk Try.prog 16 ty16 := tyOk_of (by kernel_rfl) (by kernel_rfl)
theorem tok17 : TyOk Try.prog 17 ty17 := tyOk_of (by kernel_rfl) (by kernel_rfl)
theorem tok18 : TyOk Try.prog 18 ty18 := tyOk_of (by kernel_rfl) (by kernel_rfl)
theorem tok19 : TyOk Try.prog 19 ty19 := tyOk_of (by kernel_rfl) (by kernel_rfl)
theorem tok21 : TyOk Try.prog 21 ty21 := tyOk_of (by kernel_rfl) (by kernel_rfl)
theorem tok22 : TyOk Try.prog 22 ty22 := tyOk_of (by kernel_rfl) (by kernel_rfl)
theorem tok23 : TyOk Try.prog 23 ty23 := tyOk_of (by kernel_rfl) (by kernel_rfl)
theorem tok24 : TyOk Try.prog 24 ty24 := tyOk_of (by kernel_rfl) (by kernel_rfl)
theorem tok25 : TyOk Try.prog 25 ty25 := tyOk_of (by kernel_rfl) (by kernel_rfl)
theorem tok26 : TyOk Try.prog 26 ty26 := tyOk_of (by kernel_rfl) (by kernel_rfl)
theorem tok27 : TyOk Try.prog 27 ty27 := tyOk_of (by kernel_rfl) (by kernel_rfl)
theorem tok28 : TyOk Try.prog 28 ty28 := tyOk_of (by kernel_rfl) (by kernel_rfl)
theorem tok29 : TyOk Try.prog 29 ty29 := tyOk_of (by kernel_rfl) (by kernel_rfl)
theorem tok30 : TyOk Try.prog 30 ty30 := tyOk_of (by kernel_rfl) (by kernel_rfl)
theorem tok31 : TyOk Try.prog 31 ty31 := tyOk_of (by kernel_rfl) (by kernel_rfl)
theorem tok32 : TyOk Try.prog 32 ty32 := tyOk_of (by kernel_rfl) (by kernel_rfl)
theorem tok33 : TyOk Try.prog 33 ty33 := tyOk_of (by kernel_rfl) (by kernel_rfl)
theorem tok34 : TyOk Try.prog 34 ty34 := tyOk_of (by kernel_rfl) (by kernel_rfl)
theorem tok35 : TyOk Try.prog 35 ty35 := tyOk_of (by kernel_rfl) (by kernel_rfl)
theorem tok36 : TyOk Try.prog 36 ty36 := tyOk_of (by kernel_rfl) (by kernel_rfl)
theorem tok37 : TyOk Try.prog 37 ty37 := tyOk_of (by kernel_rfl) (by kernel_rfl)
theorem tok38 : TyOk Try.prog 38 ty38 := tyOk_of (by kernel_rfl) (by kernel_rfl)
theorem tok39 : TyOk Try.prog 39 ty39 := tyOk_of (by kernel_rfl) (by kernel_rfl)
theorem tok40 : TyOk Try.prog 40 ty40 := tyOk_of (by kernel_rfl) (by kernel_rfl)
theorem tok41 : TyOk Try.prog 41 ty41 := tyOk_of (by kernel_rfl) (by kernel_rfl)
theorem tok42 : TyOk Try.prog 42 ty42 := tyOk_of (by kernel_rfl) (by kernel_rfl)
theorem tok43 : TyOk Try.prog 43 ty43 := tyOk_of (by kernel_rfl) (by kernel_rfl)
theorem tok44 : TyOk Try.prog 44 ty44 := tyOk_of (by kernel_rfl) (by kernel_rfl)
theorem tok45 : TyOk Try.prog 45 ty45 := tyOk_of (by kernel_rfl) (by kernel_rfl)
theorem tok46 : TyOk Try.prog 46 ty46 := tyOk_of (by kernel_rfl) (by kernel_rfl)
theorem tok47 : TyOk Try.prog 47 ty47 := tyOk_of (by kernel_rfl) (by kernel_rfl)
theorem tok49 : TyOk Try.prog 49 ty49 := tyOk_of (by kernel_rfl) (by kernel_rfl)
theorem tok50 : TyOk Try.prog 50 ty50 := tyOk_of (by kernel_rfl) (by kernel_rfl)
theorem tok51 : TyOk Try.prog 51 ty51 := tyOk_of (by kernel_rfl) (by kernel_rfl)
theorem tok52 : TyOk Try.prog 52 ty52 := tyOk_of (by kernel_rfl) (by kernel_rfl)
theorem tok53 : TyOk Try.prog 53 ty53 := tyOk_of (by kernel_rfl) (by kernel_rfl)
theorem tok54 : TyOk Try.prog 54 ty54 := tyOk_of (by kernel_rfl) (by kernel_rfl)
theorem tok55 : TyOk Try.prog 55 ty55 := tyOk_of (by kernel_rfl) (by kernel_rfl)
theorem tok56 : TyOk Try.prog 56 ty56 := tyOk_of (by kernel_rfl) (by kernel_rfl)
theorem tok58 : TyOk Try.prog 58 ty58 := tyOk_of (by kernel_rfl) (by kernel_rfl)
theorem tok59 : TyOk Try.prog 59 ty59 := tyOk_of (by kernel_rfl) (by kernel_rfl)
theorem tok60 : TyOk Try.prog 60 ty60 := tyOk_of (by kernel_rfl) (by kernel_rfl)
theorem tok61 : TyOk Try.prog 61 ty61 := tyOk_of (by kernel_rfl) (by kernel_rfl)
theorem tok62 : TyOk Try.prog 62 ty62 := tyOk_of (by kernel_rfl) (by kernel_rfl)
theorem tok63 : TyOk Try.prog 63 ty63 := tyOk_of (by kernel_rfl) (by kernel_rfl)
theorem tok64 : TyOk Try.prog 64 ty64 := tyOk_of (by kernel_rfl) (by kernel_rfl)
theorem tok65 : TyOk Try.prog 65 ty65 := tyOk_of (by kernel_rfl) (by kernel_rfl)
theorem tok66 : TyOk Try.prog 66 ty66 := tyOk_of (by kernel_rfl) (by kernel_rfl)
theorem tok67 : TyOk Try.prog 67 ty67 := tyOk_of (by kernel_rfl) (by kernel_rfl)
theorem tok68 : TyOk Try.prog 68 ty68 := tyOk_of (by kernel_rfl) (by kernel_rfl)
theorem tok69 : TyOk Try.prog 69 ty69 := tyOk_of (by kernel_rfl) (by kernel_rfl)
theorem tok70 : TyOk Try.prog 70 ty70 := tyOk_of (by kernel_rfl) (by kernel_rfl)
theorem tok71 : TyOk Try.prog 71 ty71 := tyOk_of (by kernel_rfl) (by kernel_rfl)
theorem tok72 : TyOk Try.prog 72 ty72 := tyOk_of (by kernel_rfl) (by kernel_rfl)
theorem tok73 : TyOk Try.prog 73 ty73 := tyOk_of (by kernel_rfl) (by kernel_rfl)
theorem tok74 : TyOk Try.prog 74 ty74 := tyOk_of (by kernel_rfl) (by kernel_rfl)
theorem tok75 : TyOk Try.prog 75 ty75 := tyOk_of (by kernel_rfl) (by kernel_rfl)
theorem tok76 : TyOk Try.prog 76 ty76 := tyOk_of (by kernel_rfl) (by kernel_rfl)
theorem tok77 : TyOk Try.prog 77 ty77 := tyOk_of (by kernel_rfl) (by kernel_rfl)
theorem tok78 : TyOk Try.prog 78 ty78 := tyOk_of (by kernel_rfl) (by kernel_rfl)
theorem tok80 : TyOk Try.prog 80 ty80 := tyOk_of (by kernel_rfl) (by kernel_rfl)
theorem tok81 : TyOk Try.prog 81 ty81 := tyOk_of (by kernel_rfl) (by kernel_rfl)
theorem tok82 : TyOk Try.prog 82 ty82 := tyOk_of (by kernel_rfl) (by kernel_rfl)
theorem tok83 : TyOk Try.prog 83 ty83 := tyOk_of (by kernel_rfl) (by kernel_rfl)
theorem tok84 : TyOk Try.prog 84 ty84 := tyOk_of (by kernel_rfl) (by kernel_rfl)
theorem tok85 : TyOk Try.prog 85 ty85 := tyOk_of (by kernel_rfl) (by kernel_rfl)
theorem tok86 : TyOk Try.prog 86 ty86 := tyOk_of (by kernel_rfl) (by kernel_rfl)
theorem tok87 : TyOk Try.prog 87 ty87 := tyOk_of (by kernel_rfl) (by kernel_rfl)
theorem tok89 : TyOk Try.prog 89 ty89 := tyOk_of (by kernel_rfl) (by kernel_rfl)
theorem tok90 : TyOk Try.prog 90 ty90 := tyOk_of (by kernel_rfl) (by kernel_rfl)
theorem tok91 : TyOk Try.prog 91 ty91 := tyOk_of (by kernel_rfl) (by kernel_rfl)
theorem tok92 : TyOk Try.prog 92 ty92 := tyOk_of (by kernel_rfl) (by kernel_rfl)
theorem tok93 : TyOk Try.prog 93 ty93 := tyOk_of (by kernel_rfl) (by kernel_rfl)
theorem tok94 : TyOk Try.prog 94 ty94 := tyOk_of (by kernel_rfl) (by kernel_rfl)
theorem tok95 : TyOk Try.prog 95 ty95 := tyOk_of (by kernel_rfl) (by kernel_rfl)
theorem tok96 : TyOk Try.prog 96 ty96 := tyOk_of (by kernel_rfl) (by kernel_rfl)
theorem tok97 : TyOk Try.prog 97 ty97 := tyOk_of (by kernel_rfl) (by kernel_rfl)
theorem tok98 : TyOk Try.prog 98 ty98 := tyOk_of (by kernel_rfl) (by kernel_rfl)
theorem tok100 : TyOk Try.prog 100 ty100 := tyOk_of (by kernel_rfl) (by kernel_rfl)
theorem tok101 : TyOk Try.prog 101 ty101 := tyOk_of (by kernel_rfl) (by kernel_rfl)
theorem tok102 : TyOk Try.prog 102 ty102 := tyOk_of (by kernel_rfl) (by kernel_rfl)
theorem tok103 : TyOk Try.prog 103 ty103 := tyOk_of (by kernel_rfl) (by kernel_rfl)
theorem tok104 : TyOk Try.prog 104 ty104 := tyOk_of (by kernel_rfl) (by kernel_rfl)
theorem tok105 : TyOk Try.prog 105 ty105 := tyOk_of (by kernel_rfl) (by kernel_rfl)
theorem tok106 : TyOk Try.prog 106 ty106 := tyOk_of (by kernel_rfl) (by kernel_rfl)
theorem tok107 : TyOk Try.prog 107 ty107 := tyOk_of (by kernel_rfl) (by kernel_rfl)
theorem tok108 : TyOk Try.prog 108 ty108 := tyOk_of (by kernel_rfl) (by kernel_rfl)
theorem tok109 : TyOk Try.prog 109 ty109 := tyOk_of (by kernel_rfl) (by kernel_rfl)
theorem tok111 : TyOk Try.prog 111 ty111 := tyOk_of (by kernel_rfl) (by kernel_rfl)
theorem tok112 : TyOk Try.prog 112 ty112 := tyOk_of (by kernel_rfl) (by kernel_rfl)
theorem tok113 : TyOk Try.prog 113 ty113 := tyOk_of (by kernel_rfl) (by kernel_rfl)
theorem tok114 : TyOk Try.prog 114 ty114 := tyOk_of (by kernel_rfl) (by kernel_rfl)
theorem tok115 : TyOk Try.prog 115 ty115 := tyOk_of (by kernel_rfl) (by kernel_rfl)
theorem tok116 : TyOk Try.prog 116 ty116 := tyOk_of (by kernel_rfl) (by kernel_rfl)
theorem tok117 : TyOk Try.prog 117 ty117 := tyOk_of (by kernel_rfl) (by kernel_rfl)
theorem tok118 : TyOk Try.prog 118 ty118 := tyOk_of (by kernel_rfl) (by kernel_rfl)
theorem tok120 : TyOk Try.prog 120 ty120 := tyOk_of (by kernel_rfl) (by kernel_rfl)
theorem tok121 : TyOk Try.prog 121 ty121 := tyOk_of (by kernel_rfl) (by kernel_rfl)
theorem tok122 : TyOk Try.prog 122 ty122 := tyOk_of (by kernel_rfl) (by kernel_rfl)
theorem tok123 : TyOk Try.prog 123 ty123 := tyOk_of (by kernel_rfl) (by kernel_rfl)
theorem tok124 : TyOk Try.prog 124 ty124 := tyOk_of (by kernel_rfl) (by kernel_rfl)
theorem tok125 : TyOk Try.prog 125 ty125 := tyOk_of (by kernel_rfl) (by kernel_rfl)
theorem tok126 : TyOk Try.prog 126 ty126 := tyOk_of (by kernel_rfl) (by kernel_rfl)
theorem tok127 : TyOk Try.prog 127 ty127 := tyOk_of (by kernel_rfl) (by kernel_rfl)
theorem tok128 : TyOk Try.prog 128 ty128 := tyOk_of (by kernel_rfl) (by kernel_rfl)
theorem tok129 : TyOk Try.prog 129 ty129 := tyOk_of (by kernel_rfl) (by kernel_rfl)
theorem tok130 : TyOk Try.prog 130 ty130 := tyOk_of (by kernel_rfl) (by kernel_rfl)
theorem tok131 : TyOk Try.prog 131 ty131 := tyOk_of (by kernel_rfl) (by kernel_rfl)
theorem tok132 : TyOk Try.prog 132 ty132 := tyOk_of (by kernel_rfl) (by kernel_rfl)
theorem tok133 : TyOk Try.prog 133 ty133 := tyOk_of (by kernel_rfl) (by kernel_rfl)
theorem tok134 : TyOk Try.prog 134 ty134 := tyOk_of (by kernel_rfl) (by kernel_rfl)
theorem tok135 : TyOk Try.prog 135 ty135 := tyOk_of (by kernel_rfl) (by kernel_rfl)
theorem tok136 : TyOk Try.prog 136 ty136 := tyOk_of (by kernel_rfl) (by kernel_rfl)
theorem tok137 : TyOk Try.prog 137 ty137 := tyOk_of (by kernel_rfl) (by kernel_rfl)
theorem tok138 : TyOk Try.prog 138 ty138 := tyOk_of (by kernel_rfl) (by kernel_rfl)
theorem tok139 : TyOk Try.prog 139 ty139 := tyOk_of (by kernel_rfl) (by kernel_rfl)
theorem tok140 : TyOk Try.prog 140 ty140 := tyOk_of (by kernel_rfl) (by kernel_rfl)
theorem tok141 : TyOk Try.prog 141 ty141 := tyOk_of (by kernel_rfl) (by kernel_rfl)
theorem tok142 : TyOk Try.prog 142 ty142 := tyOk_of (by kernel_rfl) (by kernel_rfl)
theorem tok143 : TyOk Try.prog 143 ty143 := tyOk_of (by kernel_rfl) (by kernel_rfl)
theorem tok144 : TyOk Try.prog 144 ty144 := tyOk_of (by kernel_rfl) (by kernel_rfl)
theorem tok145 : TyOk Try.prog 145 ty145 := tyOk_of (by kernel_rfl) (by kernel_rfl)
theorem tok146 : TyOk Try.prog 146 ty146 := tyOk_of (by kernel_rfl) (by kernel_rfl)
theorem tok147 : TyOk Try.prog 147 ty147 := tyOk_of (by kernel_rfl) (by kernel_rfl)
theorem tok148 : TyOk Try.prog 148 ty148 := tyOk_of (by kernel_rfl) (by kernel_rfl)
theorem tok149 : TyOk Try.prog 149 ty149 := tyOk_of (by kernel_rfl) (by kernel_rfl)
theorem tok150 : TyOk Try.prog 150 ty150 := tyOk_of (by kernel_rfl) (by kernel_rfl)
theorem tok151 : TyOk Try.prog 151 ty151 := tyOk_of (by kernel_rfl) (by kernel_rfl)
theorem tok152 : TyOk Try.prog 152 ty152 := tyOk_of (by kernel_rfl) (by kernel_rfl)
theorem tok153 : TyOk Try.prog 153 ty153 := tyOk_of (by kernel_rfl) (by kernel_rfl)
theorem tok154 : TyOk Try.prog 154 ty154 := tyOk_of (by kernel_rfl) (by kernel_rfl)
theorem tok155 : TyOk Try.prog 155 ty155 := tyOk_of (by kernel_rfl) (by kernel_rfl)
theorem tok156 : TyOk Try.prog 156 ty156 := tyOk_of (by kernel_rfl) (by kernel_rfl)
theorem tok157 : TyOk Try.prog 157 ty157 := tyOk_of (by kernel_rfl) (by kernel_rfl)
theorem tok158 : TyOk Try.prog 158 ty158 := tyOk_of (by kernel_rfl) (by kernel_rfl)
theorem tok160 : TyOk Try.prog 160 ty160 := tyOk_of (by kernel_rfl) (by kernel_rfl)
theorem tok161 : TyOk Try.prog 161 ty161 := tyOk_of (by kernel_rfl) (by kernel_rfl)
theorem tok162 : TyOk Try.prog 162 ty162 := tyOk_of (by kernel_rfl) (by kernel_rfl)
theorem tok163 : TyOk Try.prog 163 ty163 := tyOk_of (by kernel_rfl) (by kernel_rfl)
theorem tok164 : TyOk Try.prog 164 ty164 := tyOk_of (by kernel_rfl) (by kernel_rfl)
theorem tok165 : TyOk Try.prog 165 ty165 := tyOk_of (by kernel_rfl) (by kernel_rfl)
theorem tok166 : TyOk Try.prog 166 ty166 := tyOk_of (by kernel_rfl) (by kernel_rfl)
theorem tok167 : TyOk Try.prog 167 ty167 := tyOk_of (by kernel_rfl) (by kernel_rfl)
theorem tok168 : TyOk Try.prog 168 ty168 := tyOk_of (by kernel_rfl) (by kernel_rfl)
theorem tok169 : TyOk Try.prog 169 ty169 := tyOk_of (by kernel_rfl) (by kernel_rfl)
theorem tok170 : TyOk Try.prog 170 ty170 := tyOk_of (by kernel_rfl) (by kernel_rfl)
theorem tok171 : TyOk Try.prog 171 ty171 := tyOk_of (by kernel_rfl) (by kernel_rfl)
theorem tok172 : TyOk Try.prog 172 ty172 := tyOk_of (by kernel_rfl) (by kernel_rfl)
theorem tok173 : TyOk Try.prog 173 ty173 := tyOk_of (by kernel_rfl) (by kernel_rfl)
theorem tok174 : TyOk Try.prog 174 ty174 := tyOk_of (by kernel_rfl) (by kernel_rfl)
theorem tok175 : TyOk Try.prog 175 ty175 := tyOk_of (by kernel_rfl) (by kernel_rfl)
theorem tok176 : TyOk Try.prog 176 ty176 := tyOk_of (by kernel_rfl) (by kernel_rfl)
theorem tok177 : TyOk Try.prog 177 ty177 := tyOk_of (by kernel_rfl) (by kernel_rfl)
theorem tok178 : TyOk Try.prog 178 ty178 := tyOk_of (by kernel_rfl) (by kernel_rfl)
theorem tok179 : TyOk Try.prog 179 ty179 := tyOk_of (by kernel_rfl) (by kernel_rfl)
theorem tok180 : TyOk Try.prog 180 ty180 := tyOk_of (by kernel_rfl) (by kernel_rfl)
theorem tok181 : TyOk Try.prog 181 ty181 := tyOk_of (by kernel_rfl) (by kernel_rfl)
theorem tok182 : TyOk Try.prog 182 ty182 := tyOk_of (by kernel_rfl) (by kernel_rfl)
theorem tok183 : TyOk Try.prog 183 ty183 := tyOk_of (by kernel_rfl) (by kernel_rfl)
theorem tok184 : TyOk Try.prog 184 ty184 := tyOk_of (by kernel_rfl) (by kernel_rfl)
theorem tok185 : TyOk Try.prog 185 ty185 := tyOk_of (by kernel_rfl) (by kernel_rfl)
theorem tok186 : TyOk Try.prog 186 ty186 := tyOk_of (by kernel_rfl) (by kernel_rfl)
theorem tok187 : TyOk Try.prog 187 ty187 := tyOk_of (by kernel_rfl) (by kernel_rfl)
theorem tok188 : TyOk Try.prog 188 ty188 := tyOk_of (by kernel_rfl) (by kernel_rfl)
theorem tok189 : TyOk Try.prog 189 ty189 := tyOk_of (by kernel_rfl) (by kernel_rfl)
theorem tok190 : TyOk Try.prog 190 ty190 := tyOk_of (by kernel_rfl) (by kernel_rfl)
theorem tok191 : TyOk Try.prog 191 ty191 := tyOk_of (by kernel_rfl) (by kernel_rfl)
theorem tok192 : TyOk Try.prog 192 ty192 := tyOk_of (by kernel_rfl) (by kernel_rfl)
theorem tok193 : TyOk Try.prog 193 ty193 := tyOk_of (by kernel_rfl) (by kernel_rfl)
theorem tok194 : TyOk Try.prog 194 ty194 := tyOk_of (by kernel_rfl) (by kernel_rfl)
theorem tok195 : TyOk Try.prog 195 ty195 := tyOk_of (by kernel_rfl) (by kernel_rfl)
theorem tok196 : TyOk Try.prog 196 ty196 := tyOk_of (by kernel_rfl) (by kernel_rfl)
theorem tok197 : TyOk Try.prog 197 ty197 := tyOk_of (by kernel_rfl) (by kernel_rfl)
theorem tok198 : TyOk Try.prog 198 ty198 := tyOk_of (by kernel_rfl) (by kernel_rfl)
theorem tok199 : TyOk Try.prog 199 ty199 := tyOk_of (by kernel_rfl) (by kernel_rfl)
theorem tok200 : TyOk Try.prog 200 ty200 := tyOk_of (by kernel_rfl) (by kernel_rfl)
theorem tok201 : TyOk Try.prog 201 ty201 := tyOk_of (by kernel_rfl) (by kernel_rfl)
theorem tok202 : TyOk Try.prog 202 ty202 := tyOk_of (by kernel_rfl) (by kernel_rfl)
theorem tok203 : TyOk Try.prog 203 ty203 := tyOk_of (by kernel_rfl) (by kernel_rfl)
theorem tok204 : TyOk Try.prog 204 ty204 := tyOk_of (by kernel_rfl) (by kernel_rfl)
theorem tok205 : TyOk Try.prog 205 ty205 := tyOk_of (by kernel_rfl) (by kernel_rfl)
theorem tok206 : TyOk Try.prog 206 ty206 := tyOk_of (by kernel_rfl) (by kernel_rfl)
theorem tok207 : TyOk Try.prog 207 ty207 := tyOk_of (by kernel_rfl) (by kernel_rfl)
theorem tok208 : TyOk Try.prog 208 ty208 := tyOk_of (by kernel_rfl) (by kernel_rfl)
theorem tok209 : TyOk Try.prog 209 ty209 := tyOk_of (by kernel_rfl) (by kernel_rfl)
theorem tok210 : TyOk Try.prog 210 ty210 := tyOk_of (by kernel_rfl) (by kernel_rfl)
theorem tok211 : TyOk Try.prog 211 ty211 := tyOk_of (by kernel_rfl) (by kernel_rfl)
theorem tok212 : TyOk Try.prog 212 ty212 := tyOk_of (by kernel_rfl) (by kernel_rfl)
theorem tok214 : TyOk Try.prog 214 ty214 := tyOk_of (by kernel_rfl) (by kernel_rfl)
theorem tok215 : TyOk Try.prog 215 ty215 := tyOk_of (by kernel_rfl) (by kernel_rfl)
theorem tok216 : TyOk Try.prog 216 ty216 := tyOk_of (by kernel_rfl) (by kernel_rfl)
theorem tok217 : TyOk Try.prog 217 ty217 := tyOk_of (by kernel_rfl) (by kernel_rfl)
theorem tok218 : TyOk Try.prog 218 ty218 := tyOk_of (by kernel_rfl) (by kernel_rfl)
theorem tok219 : TyOk Try.prog 219 ty219 := tyOk_of (by kernel_rfl) (by kernel_rfl)
theorem tok220 : TyOk Try.prog 220 ty220 := tyOk_of (by kernel_rfl) (by kernel_rfl)
theorem tok221 : TyOk Try.prog 221 ty221 := tyOk_of (by kernel_rfl) (by kernel_rfl)
theorem tok222 : TyOk Try.prog 222 ty222 := tyOk_of (by kernel_rfl) (by kernel_rfl)
theorem tok223 : TyOk Try.prog 223 ty223 := tyOk_of (by kernel_rfl) (by kernel_rfl)
theorem tok224 : TyOk Try.prog 224 ty224 := tyOk_of (by kernel_rfl) (by kernel_rfl)
theorem tok225 : TyOk Try.prog 225 ty225 := tyOk_of (by kernel_rfl) (by kernel_rfl)
theorem tok226 : TyOk Try.prog 226 ty226 := tyOk_of (by kernel_rfl) (by kernel_rfl)
theorem tok227 : TyOk Try.prog 227 ty227 := tyOk_of (by kernel_rfl) (by kernel_rfl)
theorem tok228 : TyOk Try.prog 228 ty228 := tyOk_of (by kernel_rfl) (by kernel_rfl)
theorem tok229 : TyOk Try.prog 229 ty229 := tyOk_of (by kernel_rfl) (by kernel_rfl)
theorem tok230 : TyOk Try.prog 230 ty230 := tyOk_of (by kernel_rfl) (by kernel_rfl)
theorem tok231 : TyOk Try.prog 231 ty231 := tyOk_of (by kernel_rfl) (by kernel_rfl)
theorem tok232 : TyOk Try.prog 232 ty232 := tyOk_of (by kernel_rfl) (by kernel_rfl)
theorem tok233 : TyOk Try.prog 233 ty233 := tyOk_of (by kernel_rfl) (by kernel_rfl)
theorem tok234 : TyOk Try.prog 234 ty234 := tyOk_of (by kernel_rfl) (by kernel_rfl)
theorem tok237 : TyOk Try.prog 237 ty237 := tyOk_of (by kernel_rfl) (by kernel_rfl)
theorem tok240 : TyOk Try.prog 240 ty240 := tyOk_of (by kernel_rfl) (by kernel_rfl)
theorem tok241 : TyOk Try.prog 241 ty241 := tyOk_of (by kernel_rfl) (by kernel_rfl)
theorem tok242 : TyOk Try.prog 242 ty242 := tyOk_of (by kernel_rfl) (by kernel_rfl)
theorem tok243 : TyOk Try.prog 243 ty243 := tyOk_of (by kernel_rfl) (by kernel_rfl)
theorem tok244 : TyOk Try.prog 244 ty244 := tyOk_of (by kernel_rfl) (by kernel_rfl)
theorem tok245 : TyOk Try.prog 245 ty245 := tyOk_of (by kernel_rfl) (by kernel_rfl)
theorem tok246 : TyOk Try.prog 246 ty246 := tyOk_of (by kernel_rfl) (by kernel_rfl)
theorem tok247 : TyOk Try.prog 247 ty247 := tyOk_of (by kernel_rfl) (by kernel_rfl)
theorem tok248 : TyOk Try.prog 248 ty248 := tyOk_of (by kernel_rfl) (by kernel_rfl)
theorem fok3 : Try.prog.funcs[3]? = some Try.f3 ∧ (Try.f3.name == "runtime.NumGoroutine") = false := ⟨Try.func3, by kernel_rfl⟩
theorem fok4 : Try.prog.funcs[4]? = some Try.f4 ∧ (Try.f4.name == "runtime.NumGoroutine") = false := ⟨Try.func4, by kernel_rfl⟩
theorem fok5 : Try.prog.funcs[5]? = some Try.f5 ∧ (Try.f5.name == "runtime.NumGoroutine") = false := ⟨Try.func5, by kernel_rfl⟩
theorem fok6 : Try.prog.funcs[6]? = some Try.f6 ∧ (Try.f6.name == "runtime.NumGoroutine") = false := ⟨Try.func6, by kernel_rfl⟩
theorem fok7 : Try.prog.funcs[7]? = some Try.f7 ∧ (Try.f7.name == "runtime.NumGoroutine") = false := ⟨Try.func7, by kernel_rfl⟩
theorem fok8 : Try.prog.funcs[8]? = some Try.f8 ∧ (Try.f8.name == "runtime.NumGoroutine") = false := ⟨Try.func8, by kernel_rfl⟩
theorem fok9 : Try.prog.funcs[9]? = some Try.f9 ∧ (Try.f9.name == "runtime.NumGoroutine") = false := ⟨Try.func9, by kernel_rfl⟩
theorem fok10 : Try.prog.funcs[10]? = some Try.f10 ∧ (Try.f10.name == "runtime.NumGoroutine") = false := ⟨Try.func10, by kernel_rfl⟩
theorem fok11 : Try.prog.funcs[11]? = some Try.f11 ∧ (Try.f11.name == "runtime.NumGoroutine") = false := ⟨Try.func11, by kernel_rfl⟩
theorem fok12 : Try.prog.funcs[12]? = some Try.f12 ∧ (Try.f12.name == "runtime.NumGoroutine") = false := ⟨Try.func12, by kernel_rfl⟩
theorem fok13 : Try.prog.funcs[13]? = some Try.f13 ∧ (Try.f13.name == "runtime.NumGoroutine") = false := ⟨Try.func13, by kernel_rfl⟩
theorem fok14 : Try.prog.funcs[14]? = some Try.f14 ∧ (Try.f14.name == "runtime.NumGoroutine") = false := ⟨Try.func14, by kernel_rfl⟩
theorem fok15 : Try.prog.funcs[15]? = some Try.f15 ∧ (Try.f15.name == "runtime.NumGoroutine") = false := ⟨Try.func15, by kernel_rfl⟩
theorem fok16 : Try.prog.funcs[16]? = some Try.f16 ∧ (Try.f16.name == "runtime.NumGoroutine") = false := ⟨Try.func16, by kernel_rfl⟩
theorem fok17 : Try.prog.funcs[17]? = some Try.f17 ∧ (Try.f17.name == "runtime.NumGoroutine") = false := ⟨Try.func17, by kernel_rfl⟩
theorem fok18 : Try.prog.funcs[18]? = some Try.f18 ∧ (Try.f18.name == "runtime.NumGoroutine") = false := ⟨Try.func18, by kernel_rfl⟩
theorem fok19 : Try.prog.funcs[19]? = some Try.f19 ∧ (Try.f19.name == "runtime.NumGoroutine") = false := ⟨Try.func19, by kernel_rfl⟩
theorem fok20 : Try.prog.funcs[20]? = some Try.f20 ∧ (Try.f20.name == "runtime.NumGoroutine") = false := ⟨Try.func20, by kernel_rfl⟩
theorem fok21 : Try.prog.funcs[21]? = some Try.f21 ∧ (Try.f21.name == "runtime.NumGoroutine") = false := ⟨Try.func21, by kernel_rfl⟩
theorem fok22 : Try.prog.funcs[22]? = some Try.f22 ∧ (Try.f22.name == "runtime.NumGoroutine") = false := ⟨Try.func22, by kernel_rfl⟩
theorem fok23 : Try.prog.funcs[23]? = some Try.f23 ∧ (Try.f23.name == "runtime.NumGoroutine") = false := ⟨Try.func23, by kernel_rfl⟩
theorem fok24 : Try.prog.funcs[24]? = some Try.f24 ∧ (Try.f24.name == "runtime.NumGoroutine") = false := ⟨Try.func24, by kernel_rfl⟩
theorem fok25 : Try.prog.funcs[25]? = some Try.f25 ∧ (Try.f25.name == "runtime.NumGoroutine") = false := ⟨Try.func25, by kernel_rfl⟩
theorem fok26 : Try.prog.funcs[26]? = some Try.f26 ∧ (Try.f26.name == "runtime.NumGoroutine") = false := ⟨Try.func26, by kernel_rfl⟩
theorem fok27 : Try.prog.funcs[27]? = some Try.f27 ∧ (Try.f27.name == "runtime.NumGoroutine") = false := ⟨Try.func27, by kernel_rfl⟩
theorem fok28 : Try.prog.funcs[28]? = some Try.f28 ∧ (Try.f28.name == "runtime.NumGoroutine") = false := ⟨Try.func28, by kernel_rfl⟩
theorem fok29 : Try.prog.funcs[29]? = some Try.f29 ∧ (Try.f29.name == "runtime.NumGoroutine") = false := ⟨Try.func29, by kernel_rfl⟩
theorem fok30 : Try.prog.funcs[30]? = some Try.f30 ∧ (Try.f30.name == "runtime.NumGoroutine") = false := ⟨Try.func30, by kernel_rfl⟩
theorem fok31 : Try.prog.funcs[31]? = some Try.f31 ∧ (Try.f31.name == "runtime.NumGoroutine") = false := ⟨Try.func31, by kernel_rfl⟩
theorem fok32 : Try.prog.funcs[32]? = some Try.f32 ∧ (Try.f32.name == "runtime.NumGoroutine") = false := ⟨Try.func32, by kernel_rfl⟩
theorem fok33 : Try.prog.funcs[33]? = some Try.f33 ∧ (Try.f33.name == "runtime.NumGoroutine") = false := ⟨Try.func33, by kernel_rfl⟩
theorem fok34 : Try.prog.funcs[34]? = some Try.f34 ∧ (Try.f34.name == "runtime.NumGoroutine") = false := ⟨Try.func34, by kernel_rfl⟩
theorem fok35 : Try.prog.funcs[35]? = some Try.f35 ∧ (Try.f35.name == "runtime.NumGoroutine") = false := ⟨Try.func35, by kernel_rfl⟩
theorem fok36 : Try.prog.funcs[36]? = some Try.f36 ∧ (Try.f36.name == "runtime.NumGoroutine") = false := ⟨Try.func36, by kernel_rfl⟩
theorem fok37 : Try.prog.funcs[37]? = some Try.f37 ∧ (Try.f37.name == "runtime.NumGoroutine") = false := ⟨Try.func37, by kernel_rfl⟩
theorem fok38 : Try.prog.funcs[38]? = some Try.f38 ∧ (Try.f38.name == "runtime.NumGoroutine") = false := ⟨Try.func38, by kernel_rfl⟩
theorem fok39 : Try.prog.funcs[39]? = some Try.f39 ∧ (Try.f39.name == "runtime.NumGoroutine") = false := ⟨Try.func39, by kernel_rfl⟩
theorem fok40 : Try.prog.funcs[40]? = some Try.f40 ∧ (Try.f40.name == "runtime.NumGoroutine") = false := ⟨Try.func40, by kernel_rfl⟩
theorem fok41 : Try.prog.funcs[41]? = some Try.f41 ∧ (Try.f41.name == "runtime.NumGoroutine") = false := ⟨Try.func41, by kernel_rfl⟩
theorem fok42 : Try.prog.funcs[42]? = some Try.f42 ∧ (Try.f42.name == "runtime.NumGoroutine") = false := ⟨Try.func42, by kernel_rfl⟩
theorem fok43 : Try.prog.funcs[43]? = some Try.f43 ∧ (Try.f43.name == "runtime.NumGoroutine") = false := ⟨Try.func43, by kernel_rfl⟩
theorem fok44 : Try.prog.funcs[44]? = some Try.f44 ∧ (Try.f44.name == "runtime.NumGoroutine") = false := ⟨Try.func44, by kernel_rfl⟩
theorem fok45 : Try.prog.funcs[45]? = some Try.f45 ∧ (Try.f45.name == "runtime.NumGoroutine") = false := ⟨Try.func45, by kernel_rfl⟩
theorem fok46 : Try.prog.funcs[46]? = some Try.f46 ∧ (Try.f46.name == "runtime.NumGoroutine") = false := ⟨Try.func46, by kernel_rfl⟩
theorem fok47 : Try.prog.funcs[47]? = some Try.f47 ∧ (Try.f47.name == "runtime.NumGoroutine") = false := ⟨Try.func47, by kernel_rfl⟩
theorem fok48 : Try.prog.funcs[48]? = some Try.f48 ∧ (Try.f48.name == "runtime.NumGoroutine") = false := ⟨Try.func48, by kernel_rfl⟩
theorem fok49 : Try.prog.funcs[49]? = some Try.f49 ∧ (Try.f49.name == "runtime.NumGoroutine") = false := ⟨Try.func49, by kernel_rfl⟩
theorem fok50 : Try.prog.funcs[50]? = some Try.f50 ∧ (Try.f50.name == "runtime.NumGoroutine") = false := ⟨Try.func50, by kernel_rfl⟩
theorem fok51 : Try.prog.funcs[51]? = some Try.f51 ∧ (Try.f51.name == "runtime.NumGoroutine") = false := ⟨Try.func51, by kernel_rfl⟩
theorem fok52 : Try.prog.funcs[52]? = some Try.f52 ∧ (Try.f52.name == "runtime.NumGoroutine") = false := ⟨Try.func52, by kernel_rfl⟩
theorem fok53 : Try.prog.funcs[53]? = some Try.f53 ∧ (Try.f53.name == "runtime.NumGoroutine") = false := ⟨Try.func53, by kernel_rfl⟩
theorem fok54 : Try.prog.funcs[54]? = some Try.f54 ∧ (Try.f54.name == "runtime.NumGoroutine") = false := ⟨Try.func54, by kernel_rfl⟩
theorem fok55 : Try.prog.funcs[55]? = some Try.f55 ∧ (Try.f55.name == "runtime.NumGoroutine") = false := ⟨Try.func55, by kernel_rfl⟩
theorem fok56 : Try.prog.funcs[56]? = some Try.f56 ∧ (Try.f56.name == "runtime.NumGoroutine") = false := ⟨Try.func56, by kernel_rfl⟩
theorem fok57 : Try.prog.funcs[57]? = some Try.f57 ∧ (Try.f57.name == "runtime.NumGoroutine") = false := ⟨Try.func57, by kernel_rfl⟩
theorem fok58 : Try.prog.funcs[58]? = some Try.f58 ∧ (Try.f58.name == "runtime.NumGoroutine") = false := ⟨Try.func58, by kernel_rfl⟩
theorem fok59 : Try.prog.funcs[59]? = some Try.f59 ∧ (Try.f59.name == "runtime.NumGoroutine") = false := ⟨Try.func59, by kernel_rfl⟩
theorem fok60 : Try.prog.funcs[60]? = some Try.f60 ∧ (Try.f60.name == "runtime.NumGoroutine") = false := ⟨Try.func60, by kernel_rfl⟩
theorem fok61 : Try.prog.funcs[61]? = some Try.f61 ∧ (Try.f61.name == "runtime.NumGoroutine") = false := ⟨Try.func61, by kernel_rfl⟩
theorem fok62 : Try.prog.funcs[62]? = some Try.f62 ∧ (Try.f62.name == "runtime.NumGoroutine") = false := ⟨Try.func62, by kernel_rfl⟩
theorem fok63 : Try.prog.funcs[63]? = some Try.f63 ∧ (Try.f63.name == "runtime.NumGoroutine") = false := ⟨Try.func63, by kernel_rfl⟩
theorem fok64 : Try.prog.funcs[64]? = some Try.f64 ∧ (Try.f64.name == "runtime.NumGoroutine") = false := ⟨Try.func64, by kernel_rfl⟩
theorem fok65 : Try.prog.funcs[65]? = some Try.f65 ∧ (Try.f65.name == "runtime.NumGoroutine") = false := ⟨Try.func65, by kernel_rfl⟩
theorem fok66 : Try.prog.funcs[66]? = some Try.f66 ∧ (Try.f66.name == "runtime.NumGoroutine") = false := ⟨Try.func66, by kernel_rfl⟩
theorem fok67 : Try.prog.funcs[67]? = some Try.f67 ∧ (Try.f67.name == "runtime.NumGoroutine") = false := ⟨Try.func67, by kernel_rfl⟩
theorem fok68 : Try.prog.funcs[68]? = some Try.f68 ∧ (Try.f68.name == "runtime.NumGoroutine") = false := ⟨Try.func68, by kernel_rfl⟩
theorem fok69 : Try.prog.funcs[69]? = some Try.f69 ∧ (Try.f69.name == "runtime.NumGoroutine") = false := ⟨Try.func69, by kernel_rfl⟩
theorem fok70 : Try.prog.funcs[70]? = some Try.f70 ∧ (Try.f70.name == "runtime.NumGoroutine") = false := ⟨Try.func70, by kernel_rfl⟩
theorem fok71 : Try.prog.funcs[71]? = some Try.f71 ∧ (Try.f71.name == "runtime.NumGoroutine") = false := ⟨Try.func71, by kernel_rfl⟩
theorem fok72 : Try.prog.funcs[72]? = some Try.f72 ∧ (Try.f72.name == "runtime.NumGoroutine") = false := ⟨Try.func72, by kernel_rfl⟩
theorem fok73 : Try.prog.funcs[73]? = some Try.f73 ∧ (Try.f73.name == "runtime.NumGoroutine") = false := ⟨Try.func73, by kernel_rfl⟩
theorem fok74 : Try.prog.funcs[74]? = some Try.f74 ∧ (Try.f74.name == "runtime.NumGoroutine") = false := ⟨Try.func74, by kernel_rfl⟩
theorem fok75 : Try.prog.funcs[75]? = some Try.f75 ∧ (Try.f75.name == "runtime.NumGoroutine") = false := ⟨Try.func75, by kernel_rfl⟩
theorem fok76 : Try.prog.funcs[76]? = some Try.f76 ∧ (Try.f76.name == "runtime.NumGoroutine") = false := ⟨Try.func76, by kernel_rfl⟩
theorem fok77 : Try.prog.funcs[77]? = some Try.f77 ∧ (Try.f77.name == "runtime.NumGoroutine") = false := ⟨Try.func77, by kernel_rfl⟩
theorem fok78 : Try.prog.funcs[78]? = some Try.f78 ∧ (Try.f78.name == "runtime.NumGoroutine") = false := ⟨Try.func78, by kernel_rfl⟩
theorem fok79 : Try.prog.funcs[79]? = some Try.f79 ∧ (Try.f79.name == "runtime.NumGoroutine") = false := ⟨Try.func79, by kernel_rfl⟩
theorem fok80 : Try.prog.funcs[80]? = some Try.f80 ∧ (Try.f80.name == "runtime.NumGoroutine") = false := ⟨Try.func80, by kernel_rfl⟩
theorem fok81 : Try.prog.funcs[81]? = some Try.f81 ∧ (Try.f81.name == "runtime.NumGoroutine") = false := ⟨Try.func81, by kernel_rfl⟩
theorem fok82 : Try.prog.funcs[82]? = some Try.f82 ∧ (Try.f82.name == "runtime.NumGoroutine") = false := ⟨Try.func82, by kernel_rfl⟩
theorem fok83 : Try.prog.funcs[83]? = some Try.f83 ∧ (Try.f83.name == "runtime.NumGoroutine") = false := ⟨Try.func83, by kernel_rfl⟩
theorem fok84 : Try.prog.funcs[84]? = some Try.f84 ∧ (Try.f84.name == "runtime.NumGoroutine") = false := ⟨Try.func84, by kernel_rfl⟩
theorem fok85 : Try.prog.funcs[85]? = some Try.f85 ∧ (Try.f85.name == "runtime.NumGoroutine") = false := ⟨Try.func85, by kernel_rfl⟩
theorem fok86 : Try.prog.funcs[86]? = some Try.f86 ∧ (Try.f86.name == "runtime.NumGoroutine") = false := ⟨Try.func86, by kernel_rfl⟩
theorem fok87 : Try.prog.funcs[87]? = some Try.f87 ∧ (Try.f87.name == "runtime.NumGoroutine") = false := ⟨Try.func87, by kernel_rfl⟩
theorem fok88 : Try.prog.funcs[88]? = some Try.f88 ∧ (Try.f88.name == "runtime.NumGoroutine") = false := ⟨Try.func88, by kernel_rfl⟩
theorem fok89 : Try.prog.funcs[89]? = some Try.f89 ∧ (Try.f89.name == "runtime.NumGoroutine") = false := ⟨Try.func89, by kernel_rfl⟩
theorem fok90 : Try.prog.funcs[90]? = some Try.f90 ∧ (Try.f90.name == "runtime.NumGoroutine") = false := ⟨Try.func90, by kernel_rfl⟩
theorem fok91 : Try.prog.funcs[91]? = some Try.f91 ∧ (Try.f91.name == "runtime.NumGoroutine") = false := ⟨Try.func91, by kernel_rfl⟩
theorem fok92 : Try.prog.funcs[92]? = some Try.f92 ∧ (Try.f92.name == "runtime.NumGoroutine") = false := ⟨Try.func92, by kernel_rfl⟩
theorem fok93 : Try.prog.funcs[93]? = some Try.f93 ∧ (Try.f93.name == "runtime.NumGoroutine") = false := ⟨Try.func93, by kernel_rfl⟩
theorem fok94 : Try.prog.funcs[94]? = some Try.f94 ∧ (Try.f94.name == "runtime.NumGoroutine") = false := ⟨Try.func94, by kernel_rfl⟩
theorem fok95 : Try.prog.funcs[95]? = some Try.f95 ∧ (Try.f95.name == "runtime.NumGoroutine") = false := ⟨Try.func95, by kernel_rfl⟩
theorem fok96 : Try.prog.funcs[96]? = some Try.f96 ∧ (Try.f96.name == "runtime.NumGoroutine") = false := ⟨Try.func96, by kernel_rfl⟩
theorem fok97 : Try.prog.funcs[97]? = some Try.f97 ∧ (Try.f97.name == "runtime.NumGoroutine") = false := ⟨Try.func97, by kernel_rfl⟩
theorem fok98 : Try.prog.funcs[98]? = some Try.f98 ∧ (Try.f98.name == "runtime.NumGoroutine") = false := ⟨Try.func98, by kernel_rfl⟩
theorem fok99 : Try.prog.funcs[99]? = some Try.f99 ∧ (Try.f99.name == "runtime.NumGoroutine") = false := ⟨Try.func99, by kernel_rfl⟩
theorem fok100 : Try.prog.funcs[100]? = some Try.f100 ∧ (Try.f100.name == "runtime.NumGoroutine") = false := ⟨Try.func100, by kernel_rfl⟩
theorem fok101 : Try.prog.funcs[101]? = some Try.f101 ∧ (Try.f101.name == "runtime.NumGoroutine") = false := ⟨Try.func101, by kernel_rfl⟩
theorem fok102 : Try.prog.funcs[102]? = some Try.f102 ∧ (Try.f102.name == "runtime.NumGoroutine") = false := ⟨Try.func102, by kernel_rfl⟩
theorem fok103 : Try.prog.funcs[103]? = some Try.f103 ∧ (Try.f103.name == "runtime.NumGoroutine") = false := ⟨Try.func103, by kernel_rfl⟩
theorem fok104 : Try.prog.funcs[104]? = some Try.f104 ∧ (Try.f104.name == "runtime.NumGoroutine") = false := ⟨Try.func104, by kernel_rfl⟩
theorem fok105 : Try.prog.funcs[105]? = some Try.f105 ∧ (Try.f105.name == "runtime.NumGoroutine") = false := ⟨Try.func105, by kernel_rfl⟩
theorem fok106 : Try.prog.funcs[106]? = some Try.f106 ∧ (Try.f106.name == "runtime.NumGoroutine") = false := ⟨Try.func106, by kernel_rfl⟩
theorem fok107 : Try.prog.funcs[107]? = some Try.f107 ∧ (Try.f107.name == "runtime.NumGoroutine") = false := ⟨Try.func107, by kernel_rfl⟩
theorem fok108 : Try.prog.funcs[108]? = some Try.f108 ∧ (Try.f108.name == "runtime.NumGoroutine") = false := ⟨Try.func108, by kernel_rfl⟩
theorem fok109 : Try.prog.funcs[109]? = some Try.f109 ∧ (Try.f109.name == "runtime.NumGoroutine") = false := ⟨Try.func109, by kernel_rfl⟩
theorem fok110 : Try.prog.funcs[110]? = some Try.f110 ∧ (Try.f110.name == "runtime.NumGoroutine") = false := ⟨Try.func110, by kernel_rfl⟩
theorem fok111 : Try.prog.funcs[111]? = some Try.f111 ∧ (Try.f111.name == "runtime.NumGoroutine") = false := ⟨Try.func111, by kernel_rfl⟩
theorem fok112 : Try.prog.funcs[112]? = some Try.f112 ∧ (Try.f112.name == "runtime.NumGoroutine") = false := ⟨Try.func112, by kernel_rfl⟩
theorem fok113 : Try.prog.funcs[113]? = some Try.f113 ∧ (Try.f113.name == "runtime.NumGoroutine") = false := ⟨Try.func113, by kernel_rfl⟩
theorem fok114 : Try.prog.funcs[114]? = some Try.f114 ∧ (Try.f114.name == "runtime.NumGoroutine") = false := ⟨Try.func114, by kernel_rfl⟩
theorem fok115 : Try.prog.funcs[115]? = some Try.f115 ∧ (Try.f115.name == "runtime.NumGoroutine") = false := ⟨Try.func115, by kernel_rfl⟩
theorem fok116 : Try.prog.funcs[116]? = some Try.f116 ∧ (Try.f116.name == "runtime.NumGoroutine") = false := ⟨Try.func116, by kernel_rfl⟩
theorem fok117 : Try.prog.funcs[117]? = some Try.f117 ∧ (Try.f117.name == "runtime.NumGoroutine") = false := ⟨Try.func117, by kernel_rfl⟩
theorem fok118 : Try.prog.funcs[118]? = some Try.f118 ∧ (Try.f118.name == "runtime.NumGoroutine") = false := ⟨Try.func118, by kernel_rfl⟩
theorem fok119 : Try.prog.funcs[119]? = some Try.f119 ∧ (Try.f119.name == "runtime.NumGoroutine") = false := ⟨Try.func119, by kernel_rfl⟩
theorem fok120 : Try.prog.funcs[120]? = some Try.f120 ∧ (Try.f120.name == "runtime.NumGoroutine") = false := ⟨Try.func120, by kernel_rfl⟩
theorem fok121 : Try.prog.funcs[121]? = some Try.f121 ∧ (Try.f121.name == "runtime.NumGoroutine") = false := ⟨Try.func121, by kernel_rfl⟩
theorem fok122 : Try.prog.funcs[122]? = some Try.f122 ∧ (Try.f122.name == "runtime.NumGoroutine") = false := ⟨Try.func122, by kernel_rfl⟩
theorem fok123 : Try.prog.funcs[123]? = some Try.f123 ∧ (Try.f123.name == "runtime.NumGoroutine") = false := ⟨Try.func123, by kernel_rfl⟩
theorem fok124 : Try.prog.funcs[124]? = some Try.f124 ∧ (Try.f124.name == "runtime.NumGoroutine") = false := ⟨Try.func124, by kernel_rfl⟩
theorem fok125 : Try.prog.funcs[125]? = some Try.f125 ∧ (Try.f125.name == "runtime.NumGoroutine") = false := ⟨Try.func125, by kernel_rfl⟩
theorem fok126 : Try.prog.funcs[126]? = some Try.f126 ∧ (Try.f126.name == "runtime.NumGoroutine") = false := ⟨Try.func126, by kernel_rfl⟩
theorem fok127 : Try.prog.funcs[127]? = some Try.f127 ∧ (Try.f127.name == "runtime.NumGoroutine") = false := ⟨Try.func127, by kernel_rfl⟩
theorem fok128 : Try.prog.funcs[128]? = some Try.f128 ∧ (Try.f128.name == "runtime.NumGoroutine") = false := ⟨Try.func128, by kernel_rfl⟩
theorem fok129 : Try.prog.funcs[129]? = some Try.f129 ∧ (Try.f129.name == "runtime.NumGoroutine") = false := ⟨Try.func129, by kernel_rfl⟩
theorem fok130 : Try.prog.funcs[130]? = some Try.f130 ∧ (Try.f130.name == "runtime.NumGoroutine") = false := ⟨Try.func130, by kernel_rfl⟩
theorem fok131 : Try.prog.funcs[131]? = some Try.f131 ∧ (Try.f131.name == "runtime.NumGoroutine") = false := ⟨Try.func131, by kernel_rfl⟩
theorem fok132 : Try.prog.funcs[132]? = some Try.f132 ∧ (Try.f132.name == "runtime.NumGoroutine") = false := ⟨Try.func132, by kernel_rfl⟩
theorem fok133 : Try.prog.funcs[133]? = some Try.f133 ∧ (Try.f133.name == "runtime.NumGoroutine") = false := ⟨Try.func133, by kernel_rfl⟩
theorem fok134 : Try.prog.funcs[134]? = some Try.f134 ∧ (Try.f134.name == "runtime.NumGoroutine") = false := ⟨Try.func134, by kernel_rfl⟩
theorem fok135 : Try.prog.funcs[135]? = some Try.f135 ∧ (Try.f135.name == "runtime.NumGoroutine") = false := ⟨Try.func135, by kernel_rfl⟩
theorem fok136 : Try.prog.funcs[136]? = some Try.f136 ∧ (Try.f136.name == "runtime.NumGoroutine") = false := ⟨Try.func136, by kernel_rfl⟩
theorem fok137 : Try.prog.funcs[137]? = some Try.f137 ∧ (Try.f137.name == "runtime.NumGoroutine") = false := ⟨Try.func137, by kernel_rfl⟩
theorem fok138 : Try.prog.funcs[138]? = some Try.f138 ∧ (Try.f138.name == "runtime.NumGoroutine") = false := ⟨Try.func138, by kernel_rfl⟩
theorem fok139 : Try.prog.funcs[139]? = some Try.f139 ∧ (Try.f139.name == "runtime.NumGoroutine") = false := ⟨Try.func139, by kernel_rfl⟩
theorem fok140 : Try.prog.funcs[140]? = some Try.f140 ∧ (Try.f140.name == "runtime.NumGoroutine") = false := ⟨Try.func140, by kernel_rfl⟩
theorem fok141 : Try.prog.funcs[141]? = some Try.f141 ∧ (Try.f141.name == "runtime.NumGoroutine") = false := ⟨Try.func141, by kernel_rfl⟩
theorem fok142 : Try.prog.funcs[142]? = some Try.f142 ∧ (Try.f142.name == "runtime.NumGoroutine") = false := ⟨Try.func142, by kernel_rfl⟩
theorem fok143 : Try.prog.funcs[143]? = some Try.f143 ∧ (Try.f143.name == "runtime.NumGoroutine") = false := ⟨Try.func143, by kernel_rfl⟩
theorem fok144 : Try.prog.funcs[144]? = some Try.f144 ∧ (Try.f144.name == "runtime.NumGoroutine") = false := ⟨Try.func144, by kernel_rfl⟩
theorem fok145 : Try.prog.funcs[145]? = some Try.f145 ∧ (Try.f145.name == "runtime.NumGoroutine") = false := ⟨Try.func145, by kernel_rfl⟩
theorem fok146 : Try.prog.funcs[146]? = some Try.f146 ∧ (Try.f146.name == "runtime.NumGoroutine") = false := ⟨Try.func146, by kernel_rfl⟩
theorem fok147 : Try.prog.funcs[147]? = some Try.f147 ∧ (Try.f147.name == "runtime.NumGoroutine") = false := ⟨Try.func147, by kernel_rfl⟩
theorem fok148 : Try.prog.funcs[148]? = some Try.f148 ∧ (Try.f148.name == "runtime.NumGoroutine") = false := ⟨Try.func148, by kernel_rfl⟩
theorem fok149 : Try.prog.funcs[149]? = some Try.f149 ∧ (Try.f149.name == "runtime.NumGoroutine") = false := ⟨Try.func149, by kernel_rfl⟩
theorem fok150 : Try.prog.funcs[150]? = some Try.f150 ∧ (Try.f150.name == "runtime.NumGoroutine") = false := ⟨Try.func150, by kernel_rfl⟩
theorem fok151 : Try.prog.funcs[151]? = some Try.f151 ∧ (Try.f151.name == "runtime.NumGoroutine") = false := ⟨Try.func151, by kernel_rfl⟩
theorem fok152 : Try.prog.funcs[152]? = some Try.f152 ∧ (Try.f152.name == "runtime.NumGoroutine") = false := ⟨Try.func152, by kernel_rfl⟩
theorem fok153 : Try.prog.funcs[153]? = some Try.f153 ∧ (Try.f153.name == "runtime.NumGoroutine") = false := ⟨Try.func153, by kernel_rfl⟩
theorem fok154 : Try.prog.funcs[154]? = some Try.f154 ∧ (Try.f154.name == "runtime.NumGoroutine") = false := ⟨Try.func154, by kernel_rfl⟩
theorem fok155 : Try.prog.funcs[155]? = some Try.f155 ∧ (Try.f155.name == "runtime.NumGoroutine") = false := ⟨Try.func155, by kernel_rfl⟩
theorem fok156 : Try.prog.funcs[156]? = some Try.f156 ∧ (Try.f156.name == "runtime.NumGoroutine") = false := ⟨Try.func156, by kernel_rfl⟩
theorem fok157 : Try.prog.funcs[157]? = some Try.f157 ∧ (Try.f157.name == "runtime.NumGoroutine") = false := ⟨Try.func157, by kernel_rfl⟩
theorem fok158 : Try.prog.funcs[158]? = some Try.f158 ∧ (Try.f158.name == "runtime.NumGoroutine") = false := ⟨Try.func158, by kernel_rfl⟩
theorem fok159 : Try.prog.funcs[159]? = some Try.f159 ∧ (Try.f159.name == "runtime.NumGoroutine") = false := ⟨Try.func159, by kernel_rfl⟩
theorem fok160 : Try.prog.funcs[160]? = some Try.f160 ∧ (Try.f160.name == "runtime.NumGoroutine") = false := ⟨Try.func160, by kernel_rfl⟩
theorem fok161 : Try.prog.funcs[161]? = some Try.f161 ∧ (Try.f161.name == "runtime.NumGoroutine") = false := ⟨Try.func161, by kernel_rfl⟩
theorem fok162 : Try.prog.funcs[162]? = some Try.f162 ∧ (Try.f162.name == "runtime.NumGoroutine") = false := ⟨Try.func162, by kernel_rfl⟩
theorem fok163 : Try.prog.funcs[163]? = some Try.f163 ∧ (Try.f163.name == "runtime.NumGoroutine") = false := ⟨Try.func163, by kernel_rfl⟩
theorem fok164 : Try.prog.funcs[164]? = some Try.f164 ∧ (Try.f164.name == "runtime.NumGoroutine") = false := ⟨Try.func164, by kernel_rfl⟩
theorem fok165 : Try.prog.funcs[165]? = some Try.f165 ∧ (Try.f165.name == "runtime.NumGoroutine") = false := ⟨Try.func165, by kernel_rfl⟩
theorem fok166 : Try.prog.funcs[166]? = some Try.f166 ∧ (Try.f166.name == "runtime.NumGoroutine") = false := ⟨Try.func166, by kernel_rfl⟩
theorem fok167 : Try.prog.funcs[167]? = some Try.f167 ∧ (Try.f167.name == "runtime.NumGoroutine") = false := ⟨Try.func167, by kernel_rfl⟩
theorem fok168 : Try.prog.funcs[168]? = some Try.f168 ∧ (Try.f168.name == "runtime.NumGoroutine") = false := ⟨Try.func168, by kernel_rfl⟩
theorem fok169 : Try.prog.funcs[169]? = some Try.f169 ∧ (Try.f169.name == "runtime.NumGoroutine") = false := ⟨Try.func169, by kernel_rfl⟩
theorem fok170 : Try.prog.funcs[170]? = some Try.f170 ∧ (Try.f170.name == "runtime.NumGoroutine") = false := ⟨Try.func170, by kernel_rfl⟩
theorem fok171 : Try.prog.funcs[171]? = some Try.f171 ∧ (Try.f171.name == "runtime.NumGoroutine") = false := ⟨Try.func171, by kernel_rfl⟩
theorem fok172 : Try.prog.funcs[172]? = some Try.f172 ∧ (Try.f172.name == "runtime.NumGoroutine") = false := ⟨Try.func172, by kernel_rfl⟩
theorem fok173 : Try.prog.funcs[173]? = some Try.f173 ∧ (Try.f173.name == "runtime.NumGoroutine") = false := ⟨Try.func173, by kernel_rfl⟩
theorem fok174 : Try.prog.funcs[174]? = some Try.f174 ∧ (Try.f174.name == "runtime.NumGoroutine") = false := ⟨Try.func174, by kernel_rfl⟩
theorem fok175 : Try.prog.funcs[175]? = some Try.f175 ∧ (Try.f175.name == "runtime.NumGoroutine") = false := ⟨Try.func175, by kernel_rfl⟩
theorem fok176 : Try.prog.funcs[176]? = some Try.f176 ∧ (Try.f176.name == "runtime.NumGoroutine") = false := ⟨Try.func176, by kernel_rfl⟩
theorem fok177 : Try.prog.funcs[177]? = some Try.f177 ∧ (Try.f177.name == "runtime.NumGoroutine") = false := ⟨Try.func177, by kernel_rfl⟩
theorem fok178 : Try.prog.funcs[178]? = some Try.f178 ∧ (Try.f178.name == "runtime.NumGoroutine") = false := ⟨Try.func178, by kernel_rfl⟩
theorem fok179 : Try.prog.funcs[179]? = some Try.f179 ∧ (Try.f179.name == "runtime.NumGoroutine") = false := ⟨Try.func179, by kernel_rfl⟩
theorem fok180 : Try.prog.funcs[180]? = some Try.f180 ∧ (Try.f180.name == "runtime.NumGoroutine") = false := ⟨Try.func180, by kernel_rfl⟩
theorem fok181 : Try.prog.funcs[181]? = some Try.f181 ∧ (Try.f181.name == "runtime.NumGoroutine") = false := ⟨Try.func181, by kernel_rfl⟩
theorem fok182 : Try.prog.funcs[182]? = some Try.f182 ∧ (Try.f182.name == "runtime.NumGoroutine") = false := ⟨Try.func182, by kernel_rfl⟩
theorem fok183 : Try.prog.funcs[183]? = some Try.f183 ∧ (Try.f183.name == "runtime.NumGoroutine") = false := ⟨Try.func183, by kernel_rfl⟩
theorem fok184 : Try.prog.funcs[184]? = some Try.f184 ∧ (Try.f184.name == "runtime.NumGoroutine") = false := ⟨Try.func184, by kernel_rfl⟩
theorem fok185 : Try.prog.funcs[185]? = some Try.f185 ∧ (Try.f185.name == "runtime.NumGoroutine") = false := ⟨Try.func185, by kernel_rfl⟩
theorem fok186 : Try.prog.funcs[186]? = some Try.f186 ∧ (Try.f186.name == "runtime.NumGoroutine") = false := ⟨Try.func186, by kernel_rfl⟩
theorem fok202 : Try.prog.funcs[202]? = some Try.f202 ∧ (Try.f202.name == "runtime.NumGoroutine") = false := ⟨Try.func202, by kernel_rfl⟩
theorem tyAll : AllNT (fun t i => TyOk Try.prog t i) tyT := ⟨tok128, ⟨tok65, ⟨tok34, ⟨tok19, ⟨tok10, ⟨tok4, ⟨tok2, ⟨tok1, trivial, trivial⟩, ⟨tok3, trivial, trivial⟩⟩, ⟨tok6, ⟨tok5, trivial, trivial⟩, ⟨tok9, trivial, trivial⟩⟩⟩, ⟨tok16, ⟨tok12, ⟨tok11, trivial, trivial⟩, ⟨tok15, trivial, trivial⟩⟩, ⟨tok18, ⟨tok17, trivial, trivial⟩, trivial⟩⟩⟩, ⟨tok27, ⟨tok24, ⟨tok22, ⟨tok21, trivial, trivial⟩, ⟨tok23, trivial, trivial⟩⟩, ⟨tok26, ⟨tok25, trivial, trivial⟩, trivial⟩⟩, ⟨tok31, ⟨tok29, ⟨tok28, trivial, trivial⟩, ⟨tok30, trivial, trivial⟩⟩, ⟨tok33, ⟨tok32, trivial, trivial⟩, trivial⟩⟩⟩⟩, ⟨tok50, ⟨tok42, ⟨tok38, ⟨tok36, ⟨tok35, trivial, trivial⟩, ⟨tok37, trivial, trivial⟩⟩, ⟨tok40, ⟨tok39, trivial, trivial⟩, ⟨tok41, trivial, trivial⟩⟩⟩, ⟨tok46, ⟨tok44, ⟨tok43, trivial, trivial⟩, ⟨tok45, trivial, trivial⟩⟩, ⟨tok49, ⟨tok47, trivial, trivial⟩, trivial⟩⟩⟩, ⟨tok58, ⟨tok54, ⟨tok52, ⟨tok51, trivial, trivial⟩, ⟨tok53, trivial, trivial⟩⟩, ⟨tok56, ⟨tok55, trivial, trivial⟩, trivial⟩⟩, ⟨tok62, ⟨tok60, ⟨tok59, trivial, trivial⟩, ⟨tok61, trivial, trivial⟩⟩, ⟨tok64, ⟨tok63, trivial, trivial⟩, trivial⟩⟩⟩⟩⟩, ⟨tok96, ⟨tok81, ⟨tok73, ⟨tok69, ⟨tok67, ⟨tok66, trivial, trivial⟩, ⟨tok68, trivial, trivial⟩⟩, ⟨tok71, ⟨tok70, trivial, trivial⟩, ⟨tok72, trivial, trivial⟩⟩⟩, ⟨tok77, ⟨tok75, ⟨tok74, trivial, trivial⟩, ⟨tok76, trivial, trivial⟩⟩, ⟨tok80, ⟨tok78, trivial, trivial⟩, trivial⟩⟩⟩, ⟨tok89, ⟨tok85, ⟨tok83, ⟨tok82, trivial, trivial⟩, ⟨tok84, trivial, trivial⟩⟩, ⟨tok87, ⟨tok86, trivial, trivial⟩, trivial⟩⟩, ⟨tok93, ⟨tok91, ⟨tok90, trivial, trivial⟩, ⟨tok92, trivial, trivial⟩⟩, ⟨tok95, ⟨tok94, trivial, trivial⟩, trivial⟩⟩⟩⟩, ⟨tok113, ⟨tok105, ⟨tok101, ⟨tok98, ⟨tok97, trivial, trivial⟩, ⟨tok100, trivial, trivial⟩⟩, ⟨tok103, ⟨tok102, trivial, trivial⟩, ⟨tok104, trivial, trivial⟩⟩⟩, ⟨tok109, ⟨tok107, ⟨tok106, trivial, trivial⟩, ⟨tok108, trivial, trivial⟩⟩, ⟨tok112, ⟨tok111, trivial, trivial⟩, trivial⟩⟩⟩, ⟨tok121, ⟨tok117, ⟨tok115, ⟨tok114, trivial, trivial⟩, ⟨tok116, trivial, trivial⟩⟩, ⟨tok120, ⟨tok118, trivial, trivial⟩, trivial⟩⟩, ⟨tok125, ⟨tok123, ⟨tok122, trivial, trivial⟩, ⟨tok124, trivial, trivial⟩⟩, ⟨tok127, ⟨tok126, trivial, trivial⟩, trivial⟩⟩⟩⟩⟩⟩, ⟨tok187, ⟨tok157, ⟨tok143, ⟨tok136, ⟨tok132, ⟨tok130, ⟨tok129, trivial, trivial⟩, ⟨tok131, trivial, trivial⟩⟩, ⟨tok134, ⟨tok133, trivial, trivial⟩, ⟨tok135, trivial, trivial⟩⟩⟩, ⟨tok140, ⟨tok138, ⟨tok137, trivial, trivial⟩, ⟨tok139, trivial, trivial⟩⟩, ⟨tok142, ⟨tok141, trivial, trivial⟩, trivial⟩⟩⟩, ⟨tok150, ⟨tok147, ⟨tok145, ⟨tok144, trivial, trivial⟩, ⟨tok146, trivial, trivial⟩⟩, ⟨tok149, ⟨tok148, trivial, trivial⟩, trivial⟩⟩, ⟨tok154, ⟨tok152, ⟨tok151, trivial, trivial⟩, ⟨tok153, trivial, trivial⟩⟩, ⟨tok156, ⟨tok155, trivial, trivial⟩, trivial⟩⟩⟩⟩, ⟨tok173, ⟨tok166, ⟨tok162, ⟨tok160, ⟨tok158, trivial, trivial⟩, ⟨tok161, trivial, trivial⟩⟩, ⟨tok164, ⟨tok163, trivial, trivial⟩, ⟨tok165, trivial, trivial⟩⟩⟩, ⟨tok170, ⟨tok168, ⟨tok167, trivial, trivial⟩, ⟨tok169, trivial, trivial⟩⟩, ⟨tok172, ⟨tok171, trivial, trivial⟩, trivial⟩⟩⟩, ⟨tok180, ⟨tok177, ⟨tok175, ⟨tok174, trivial, trivial⟩, ⟨tok176, trivial, trivial⟩⟩, ⟨tok179, ⟨tok178, trivial, trivial⟩, trivial⟩⟩, ⟨tok184, ⟨tok182, ⟨tok181, trivial, trivial⟩, ⟨tok183, trivial, trivial⟩⟩, ⟨tok186, ⟨tok185, trivial, trivial⟩, trivial⟩⟩⟩⟩⟩, ⟨tok217, ⟨tok202, ⟨tok195, ⟨tok191, ⟨tok189, ⟨tok188, trivial, trivial⟩, ⟨tok190, trivial, trivial⟩⟩, ⟨tok193, ⟨tok192, trivial, trivial⟩, ⟨tok194, trivial, trivial⟩⟩⟩, ⟨tok199, ⟨tok197, ⟨tok196, trivial, trivial⟩, ⟨tok198, trivial, trivial⟩⟩, ⟨tok201, ⟨tok200, trivial, trivial⟩, trivial⟩⟩⟩, ⟨tok209, ⟨tok206, ⟨tok204, ⟨tok203, trivial, trivial⟩, ⟨tok205, trivial, trivial⟩⟩, ⟨tok208, ⟨tok207, trivial, trivial⟩, trivial⟩⟩, ⟨tok214, ⟨tok211, ⟨tok210, trivial, trivial⟩, ⟨tok212, trivial, trivial⟩⟩, ⟨tok216, ⟨tok215, trivial, trivial⟩, trivial⟩⟩⟩⟩, ⟨tok231, ⟨tok224, ⟨tok221, ⟨tok219, ⟨tok218, trivial, trivial⟩, ⟨tok220, trivial, trivial⟩⟩, ⟨tok223, ⟨tok222, trivial, trivial⟩, trivial⟩⟩, ⟨tok228, ⟨tok226, ⟨tok225, trivial, trivial⟩, ⟨tok227, trivial, trivial⟩⟩, ⟨tok230, ⟨tok229, trivial, trivial⟩, trivial⟩⟩⟩, ⟨tok242, ⟨tok237, ⟨tok233, ⟨tok232, trivial, trivial⟩, ⟨tok234, trivial, trivial⟩⟩, ⟨tok241, ⟨tok240, trivial, trivial⟩, trivial⟩⟩, ⟨tok246, ⟨tok244, ⟨tok243, trivial, trivial⟩, ⟨tok245, trivial, trivial⟩⟩, ⟨tok248, ⟨tok247, trivial, trivial⟩, trivial⟩⟩⟩⟩⟩⟩⟩
theorem fnAll : AllNT (fun f fn => Try.prog.funcs[f]? = some fn ∧ (fn.name == "runtime.NumGoroutine") = false) fnT := ⟨fok95, ⟨fok49, ⟨fok26, ⟨fok14, ⟨fok8, ⟨fok5, ⟨fok4, ⟨fok3, trivial, trivial⟩, trivial⟩, ⟨fok7, ⟨fok6, trivial, trivial⟩, trivial⟩⟩, ⟨fok11, ⟨fok10, ⟨fok9, trivial, trivial⟩, trivial⟩, ⟨fok13, ⟨fok12, trivial, trivial⟩, trivial⟩⟩⟩, ⟨fok20, ⟨fok17, ⟨fok16, ⟨fok15, trivial, trivial⟩, trivial⟩, ⟨fok19, ⟨fok18, trivial, trivial⟩, trivial⟩⟩, ⟨fok23, ⟨fok22, ⟨fok21, trivial, trivial⟩, trivial⟩, ⟨fok25, ⟨fok24, trivial, trivial⟩, trivial⟩⟩⟩⟩, ⟨fok38, ⟨fok32, ⟨fok29, ⟨fok28, ⟨fok27, trivial, trivial⟩, trivial⟩, ⟨fok31, ⟨fok30, trivial, trivial⟩, trivial⟩⟩, ⟨fok35, ⟨fok34, ⟨fok33, trivial, trivial⟩, trivial⟩, ⟨fok37, ⟨fok36, trivial, trivial⟩, trivial⟩⟩⟩, ⟨fok44, ⟨fok41, ⟨fok40, ⟨fok39, trivial, trivial⟩, trivial⟩, ⟨fok43, ⟨fok42, trivial, trivial⟩, trivial⟩⟩, ⟨fok47, ⟨fok46, ⟨fok45, trivial, trivial⟩, trivial⟩, ⟨fok48, trivial, trivial⟩⟩⟩⟩⟩, ⟨fok72, ⟨fok61, ⟨fok55, ⟨fok52, ⟨fok51, ⟨fok50, trivial, trivial⟩, trivial⟩, ⟨fok54, ⟨fok53, trivial, trivial⟩, trivial⟩⟩, ⟨fok58, ⟨fok57, ⟨fok56, trivial, trivial⟩, trivial⟩, ⟨fok60, ⟨fok59, trivial, trivial⟩, trivial⟩⟩⟩, ⟨fok67, ⟨fok64, ⟨fok63, ⟨fok62, trivial, trivial⟩, trivial⟩, ⟨fok66, ⟨fok65, trivial, trivial⟩, trivial⟩⟩, ⟨fok70, ⟨fok69, ⟨fok68, trivial, trivial⟩, trivial⟩, ⟨fok71, trivial, trivial⟩⟩⟩⟩, ⟨fok84, ⟨fok78, ⟨fok75, ⟨fok74, ⟨fok73, trivial, trivial⟩, trivial⟩, ⟨fok77, ⟨fok76, trivial, trivial⟩, trivial⟩⟩, ⟨fok81, ⟨fok80, ⟨fok79, trivial, trivial⟩, trivial⟩, ⟨fok83, ⟨fok82, trivial, trivial⟩, trivial⟩⟩⟩, ⟨fok90, ⟨fok87, ⟨fok86, ⟨fok85, trivial, trivial⟩, trivial⟩, ⟨fok89, ⟨fok88, trivial, trivial⟩, trivial⟩⟩, ⟨fok93, ⟨fok92, ⟨fok91, trivial, trivial⟩, trivial⟩, ⟨fok94, trivial, trivial⟩⟩⟩⟩⟩⟩, ⟨fok142, ⟨fok119, ⟨fok107, ⟨fok101, ⟨fok98, ⟨fok97, ⟨fok96, trivial, trivial⟩, trivial⟩, ⟨fok100, ⟨fok99, trivial, trivial⟩, trivial⟩⟩, ⟨fok104, ⟨fok103, ⟨fok102, trivial, trivial⟩, trivial⟩, ⟨fok106, ⟨fok105, trivial, trivial⟩, trivial⟩⟩⟩, ⟨fok113, ⟨fok110, ⟨fok109, ⟨fok108, trivial, trivial⟩, trivial⟩, ⟨fok112, ⟨fok111, trivial, trivial⟩, trivial⟩⟩, ⟨fok116, ⟨fok115, ⟨fok114, trivial, trivial⟩, trivial⟩, ⟨fok118, ⟨fok117, trivial, trivial⟩, trivial⟩⟩⟩⟩, ⟨fok131, ⟨fok125, ⟨fok122, ⟨fok121, ⟨fok120, trivial, trivial⟩, trivial⟩, ⟨fok124, ⟨fok123, trivial, trivial⟩, trivial⟩⟩, ⟨fok128, ⟨fok127, ⟨fok126, trivial, trivial⟩, trivial⟩, ⟨fok130, ⟨fok129, trivial, trivial⟩, trivial⟩⟩⟩, ⟨fok137, ⟨fok134, ⟨fok133, ⟨fok132, trivial, trivial⟩, trivial⟩, ⟨fok136, ⟨fok135, trivial, trivial⟩, trivial⟩⟩, ⟨fok140, ⟨fok139, ⟨fok138, trivial, trivial⟩, trivial⟩, ⟨fok141, trivial, trivial⟩⟩⟩⟩⟩, ⟨fok165, ⟨fok154, ⟨fok148, ⟨fok145, ⟨fok144, ⟨fok143, trivial, trivial⟩, trivial⟩, ⟨fok147, ⟨fok146, trivial, trivial⟩, trivial⟩⟩, ⟨fok151, ⟨fok150, ⟨fok149, trivial, trivial⟩, trivial⟩, ⟨fok153, ⟨fok152, trivial, trivial⟩, trivial⟩⟩⟩, ⟨fok160, ⟨fok157, ⟨fok156, ⟨fok155, trivial, trivial⟩, trivial⟩, ⟨fok159, ⟨fok158, trivial, trivial⟩, trivial⟩⟩, ⟨fok163, ⟨fok162, ⟨fok161, trivial, trivial⟩, trivial⟩, ⟨fok164, trivial, trivial⟩⟩⟩⟩, ⟨fok177, ⟨fok171, ⟨fok168, ⟨fok167, ⟨fok166, trivial, trivial⟩, trivial⟩, ⟨fok170, ⟨fok169, trivial, trivial⟩, trivial⟩⟩, ⟨fok174, ⟨fok173, ⟨fok172, trivial, trivial⟩, trivial⟩, ⟨fok176, ⟨fok175, trivial, trivial⟩, trivial⟩⟩⟩, ⟨fok183, ⟨fok180, ⟨fok179, ⟨fok178, trivial, trivial⟩, trivial⟩, ⟨fok182, ⟨fok181, trivial, trivial⟩, trivial⟩⟩, ⟨fok186, ⟨fok185, ⟨fok184, trivial, trivial⟩, trivial⟩, ⟨fok202, trivial, trivial⟩⟩⟩⟩⟩⟩⟩
theorem cfgOk : CfgOk Try.prog cfg := cfgOk_of fnAll tyAll (by kernel_rfl)
theorem codesOk : CodesOk cfg := codesOk_of (by kernel_rfl)
end Go.Proofs.Ytgnpnfkncbnjnaa
namespace Go.Proofs.Ytgnpnfkncbnjnaa
open Go Go.Am
/-! Closed facts of the program, one by one. -/
theorem Try.laidOut : laidOutB Try.prog = true := by kernel_rfl
theorem Try.own : ownKnob Try.prog.godebug = none := by kernel_rfl
theorem Try.rowed : mapsRowed Try.prog = true := by kernel_rfl
theorem Try.noStops : (Try.prog.stops == []) = true := by kernel_rfl
theorem Try.noKnobs : (Try.prog.stopKnobs == []) = true := by kernel_rfl
theorem Try.plain : (Rows.pumpKnownRow.plainKeys == Try.prog.plainKeys) = true := by kernel_rfl
theorem Try.heard : Try.prog.stopsHeard = true := by kernel_rfl
theorem Try.enters : Try.prog.mayEnter = true := by kernel_rfl
theorem Try.lifts : (Rows.pumpKnownRow.lifted == Try.prog.liftsFinal) = true := by kernel_rfl
theorem Try.makes : (Try.prog.make == some Rows.pumpKnownRow.make) = true := by kernel_rfl
end Go.Proofs.Ytgnpnfkncbnjnaa
