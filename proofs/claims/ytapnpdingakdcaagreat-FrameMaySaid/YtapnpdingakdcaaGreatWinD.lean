/- The windows between which the program is run. No condition. -/
import Derived.Test.YtapnpdingakdcaaGreatTabs
set_option linter.unusedVariables false
set_option maxRecDepth 100000
namespace Go.Proofs.YtapnpdingakdcaaGreat
open Go Go.Proofs.YtapnpdingakdcaaGreat.Eng Go.Proofs
/-- a header of which only the window is told -/
noncomputable def hd : AVal := .agg [.si .i64 (.var 0), .lit (.int .i64 0), .lit (.int .u32 0), .lit (.bool false)]
/-- the window is above p and at most v -/
noncomputable def cls (f : Nat) (q : Int × Int) : Con := ⟨f, [hd], [], [(.a2 .lt (.lit q.1) (.var 0), true), (.a2 .lt (.lit q.2) (.var 0), false)], .sb (.a2 .eq (.lit q.2) (.var 0)), [], 100000⟩
/-- the window is one of those of which it is known whether a byte tells it -/
noncomputable def out (f : Nat) (fs : Facts) (b : Bool) : Con := ⟨f, [hd], [], fs, .lit (.bool b), [], 100000⟩
noncomputable def runs (c : Con) : Bool := asWritten c (callF (tb.knows c.facts) Tryz.prog (evR (tb.knows c.facts) Tryz.prog [] 20) c.f c.args (layO c.objs) c.objs.length)
theorem runs_ok {E : Nat → Option Value} {I : Interp} {c : Con} (h : runs c = true) : ConGood E tb Tryz.prog I c := con_goodR (l := []) tb_ok (fun _ h => by cases h) h
noncomputable def low : Facts := [(.a2 .lt (.var 0) (.lit 0), true)]
noncomputable def mid : Facts := [(.a2 .lt (.var 0) (.lit 0), false), (.a2 .lt (.var 0) (.lit 1024), true)]
noncomputable def least : Facts := [(.a2 .lt (.lit 1023) (.var 0), true), (.a2 .lt (.var 0) (.lit 1025), true)]
noncomputable def high : Facts := [(.a2 .lt (.lit 134217728) (.var 0), true)]
theorem all_app {p : Int × Int → Bool} {l m : List (Int × Int)} (h : l.all p = true) (k : m.all p = true) : (l ++ m).all p = true := by rw [List.all_append, h, k]; rfl
noncomputable def pairs0 : List (Int × Int) := [(1024, 1152), (1152, 1280), (1280, 1408), (1408, 1536), (1536, 1664), (1664, 1792),
  (1792, 1920), (1920, 2048), (2048, 2304), (2304, 2560), (2560, 2816), (2816, 3072),
  (3072, 3328), (3328, 3584)]
noncomputable def pairs1 : List (Int × Int) := [(3584, 3840), (3840, 4096), (4096, 4608), (4608, 5120), (5120, 5632), (5632, 6144),
  (6144, 6656), (6656, 7168), (7168, 7680), (7680, 8192), (8192, 9216), (9216, 10240),
  (10240, 11264), (11264, 12288)]
noncomputable def pairs2 : List (Int × Int) := [(12288, 13312), (13312, 14336), (14336, 15360), (15360, 16384), (16384, 18432), (18432, 20480),
  (20480, 22528), (22528, 24576), (24576, 26624), (26624, 28672), (28672, 30720), (30720, 32768),
  (32768, 36864), (36864, 40960)]
noncomputable def pairs3 : List (Int × Int) := [(40960, 45056), (45056, 49152), (49152, 53248), (53248, 57344), (57344, 61440), (61440, 65536),
  (65536, 73728), (73728, 81920), (81920, 90112), (90112, 98304), (98304, 106496), (106496, 114688),
  (114688, 122880), (122880, 131072)]
noncomputable def pairs4 : List (Int × Int) := [(131072, 147456), (147456, 163840), (163840, 180224), (180224, 196608), (196608, 212992), (212992, 229376),
  (229376, 245760), (245760, 262144), (262144, 294912), (294912, 327680), (327680, 360448), (360448, 393216),
  (393216, 425984), (425984, 458752)]
noncomputable def pairs5 : List (Int × Int) := [(458752, 491520), (491520, 524288), (524288, 589824), (589824, 655360), (655360, 720896), (720896, 786432),
  (786432, 851968), (851968, 917504), (917504, 983040), (983040, 1048576), (1048576, 1179648), (1179648, 1310720),
  (1310720, 1441792), (1441792, 1572864)]
noncomputable def pairs6 : List (Int × Int) := [(1572864, 1703936), (1703936, 1835008), (1835008, 1966080), (1966080, 2097152), (2097152, 2359296), (2359296, 2621440),
  (2621440, 2883584), (2883584, 3145728), (3145728, 3407872), (3407872, 3670016), (3670016, 3932160), (3932160, 4194304),
  (4194304, 4718592), (4718592, 5242880)]
noncomputable def pairs7 : List (Int × Int) := [(5242880, 5767168), (5767168, 6291456), (6291456, 6815744), (6815744, 7340032), (7340032, 7864320), (7864320, 8388608),
  (8388608, 9437184), (9437184, 10485760), (10485760, 11534336), (11534336, 12582912), (12582912, 13631488), (13631488, 14680064),
  (14680064, 15728640), (15728640, 16777216)]
noncomputable def pairs8 : List (Int × Int) := [(16777216, 18874368), (18874368, 20971520), (20971520, 23068672), (23068672, 25165824), (25165824, 27262976), (27262976, 29360128),
  (29360128, 31457280), (31457280, 33554432), (33554432, 37748736), (37748736, 41943040), (41943040, 46137344), (46137344, 50331648),
  (50331648, 54525952), (54525952, 58720256)]
noncomputable def pairs9 : List (Int × Int) := [(58720256, 62914560), (62914560, 67108864), (67108864, 75497472), (75497472, 83886080), (83886080, 92274688), (92274688, 100663296),
  (100663296, 109051904), (109051904, 117440512), (117440512, 125829120), (125829120, 134217728)]
noncomputable def pairs : List (Int × Int) := pairs0 ++ (pairs1 ++ (pairs2 ++ (pairs3 ++ (pairs4 ++ (pairs5 ++ (pairs6 ++ (pairs7 ++ (pairs8 ++ (pairs9)))))))))
end Go.Proofs.YtapnpdingakdcaaGreat
