/- The chunk reader on the runner: its functions, the law that feeds it, the plain part; for the inputs that each theorem names. -/
import Derived.Test.YtdfgdpjlbcnkfaaDoorAbsB
import Derived.Test.YtdfgdpjlbcnkfaaDoorProg
namespace Go.Proofs.YtdfgdpjlbcnkfaaDoor.Q
open Go Go.Proofs.YtdfgdpjlbcnkfaaDoorAbs Go.Proofs
set_option linter.unusedVariables false
set_option linter.unusedSimpArgs false
set_option linter.defProp false
set_option maxRecDepth 100000
theorem ok3 : okCode Tryd.prog 157 (match Tryd.f3.body with | some c => c | none => .skip) = true := by kernel_rfl
theorem u22 : Tryd.prog.underlying 22 = some (.slice 5) := by kernel_rfl
theorem sz5 : asize Tryd.prog 5 = some 1 := by kernel_rfl
theorem ze5 : azero Tryd.prog 5 = some (.int .u8 0) := by kernel_rfl
theorem sc5 : scalar (.int .u8 0) = true := by simp [scalar, leaf]
theorem u5 : Tryd.prog.underlying 5 = some (.int .u8) := by kernel_rfl
theorem by5 : abytes Tryd.prog 5 = some 1 := by kernel_rfl
theorem u9 : Tryd.prog.underlying 9 = some .string := by kernel_rfl
theorem bd28_0_1 : ∀ (x0 : Int) (x1 : Int) , abuild Tryd.prog 28 #[(0, .int .i64 x0), (1, .int .i64 x1)] = some (.agg #[.int .i64 x0, .int .i64 x1]) := by intros; kernel_rfl
theorem ca9 : callable Tryd.prog 9 = true := by kernel_rfl
theorem u3 : Tryd.prog.underlying 3 = some (.int .i64) := by kernel_rfl
theorem u29 : Tryd.prog.underlying 29 = some (.int .u64) := by kernel_rfl
theorem ca10 : callable Tryd.prog 10 = true := by kernel_rfl
theorem bd28_0 : ∀ (x0 : Int) , abuild Tryd.prog 28 #[(0, .int .i64 x0)] = some (.agg #[.int .i64 x0, .int .i64 0]) := by intros; kernel_rfl
theorem bd28_ : abuild Tryd.prog 28 #[] = some (.agg #[.int .i64 0, .int .i64 0]) := by kernel_rfl
theorem ca11 : callable Tryd.prog 11 = true := by kernel_rfl
theorem ok4 : okCode Tryd.prog 186 (match Tryd.f4.body with | some c => c | none => .skip) = true := by kernel_rfl
theorem ca12 : callable Tryd.prog 12 = true := by kernel_rfl
theorem u34 : Tryd.prog.underlying 34 = some (.pointer 62) := by kernel_rfl
theorem ca13 : callable Tryd.prog 13 = true := by kernel_rfl
theorem ca14 : callable Tryd.prog 14 = true := by kernel_rfl
theorem ca16 : callable Tryd.prog 16 = true := by kernel_rfl
theorem ca15 : callable Tryd.prog 15 = true := by kernel_rfl
theorem u33 : Tryd.prog.underlying 33 = some (.slice 3) := by kernel_rfl
theorem sz3 : asize Tryd.prog 3 = some 1 := by kernel_rfl
theorem ze3 : azero Tryd.prog 3 = some (.int .i64 0) := by kernel_rfl
theorem sc3 : scalar (.int .i64 0) = true := by simp [scalar, leaf]
theorem by3 : abytes Tryd.prog 3 = some 8 := by kernel_rfl
theorem ag3 : isAgg? Tryd.prog 3 = some false := by kernel_rfl
theorem u4 : Tryd.prog.underlying 4 = some .bool := by kernel_rfl
theorem ca18 : callable Tryd.prog 18 = true := by kernel_rfl
theorem ca17 : callable Tryd.prog 17 = true := by kernel_rfl
theorem ok5 : okCode Tryd.prog 171 (match Tryd.f5.body with | some c => c | none => .skip) = true := by kernel_rfl
theorem ca19 : callable Tryd.prog 19 = true := by kernel_rfl
theorem ca20 : callable Tryd.prog 20 = true := by kernel_rfl
theorem ca21 : callable Tryd.prog 21 = true := by kernel_rfl
theorem u41 : Tryd.prog.underlying 41 = some (.slice 66) := by kernel_rfl
theorem sz66 : asize Tryd.prog 66 = some 2 := by kernel_rfl
theorem ze66 : azero Tryd.prog 66 = some (.agg #[.string ⟨#[]⟩, .string ⟨#[]⟩]) := by kernel_rfl
theorem sc66 : scalar (.agg #[.string ⟨#[]⟩, .string ⟨#[]⟩]) = true := by simp [scalar, leaf]
theorem by66 : abytes Tryd.prog 66 = some 32 := by kernel_rfl
theorem ok6 : okCode Tryd.prog 107 (match Tryd.f6.body with | some c => c | none => .skip) = true := by kernel_rfl
theorem u46 : Tryd.prog.underlying 46 = some (.slice 28) := by kernel_rfl
theorem sz28 : asize Tryd.prog 28 = some 2 := by kernel_rfl
theorem ze28 : azero Tryd.prog 28 = some (.agg #[.int .i64 0, .int .i64 0]) := by kernel_rfl
theorem sc28 : scalar (.agg #[.int .i64 0, .int .i64 0]) = true := by simp [scalar, leaf]
theorem by28 : abytes Tryd.prog 28 = some 16 := by kernel_rfl
theorem ag28 : isAgg? Tryd.prog 28 = some true := by kernel_rfl
theorem ca22 : callable Tryd.prog 22 = true := by kernel_rfl
theorem ok7 : okCode Tryd.prog 167 (match Tryd.f7.body with | some c => c | none => .skip) = true := by kernel_rfl
theorem ca23 : callable Tryd.prog 23 = true := by kernel_rfl
theorem u47 : Tryd.prog.underlying 47 = some (.pointer 73) := by kernel_rfl
theorem ca24 : callable Tryd.prog 24 = true := by kernel_rfl
theorem ca25 : callable Tryd.prog 25 = true := by kernel_rfl
theorem ca26 : callable Tryd.prog 26 = true := by kernel_rfl
theorem ca28 : callable Tryd.prog 28 = true := by kernel_rfl
theorem ca27 : callable Tryd.prog 27 = true := by kernel_rfl
theorem ok8 : okCode Tryd.prog 121 (match Tryd.f8.body with | some c => c | none => .skip) = true := by kernel_rfl
theorem ca29 : callable Tryd.prog 29 = true := by kernel_rfl
theorem u52 : Tryd.prog.underlying 52 = some (.slice 22) := by kernel_rfl
theorem sz22 : asize Tryd.prog 22 = some 1 := by kernel_rfl
theorem ze22 : azero Tryd.prog 22 = some (.slice none 0 0) := by kernel_rfl
theorem sc22 : scalar (.slice none 0 0) = true := by simp [scalar, leaf]
theorem by22 : abytes Tryd.prog 22 = some 24 := by kernel_rfl
theorem ag22 : isAgg? Tryd.prog 22 = some false := by kernel_rfl
theorem ca30 : callable Tryd.prog 30 = true := by kernel_rfl
theorem ca31 : callable Tryd.prog 31 = true := by kernel_rfl
theorem ok9 : okCode Tryd.prog 40 (match Tryd.f9.body with | some c => c | none => .skip) = true := by kernel_rfl
theorem ok10 : okCode Tryd.prog 30 (match Tryd.f10.body with | some c => c | none => .skip) = true := by kernel_rfl
theorem ok11 : okCode Tryd.prog 23 (match Tryd.f11.body with | some c => c | none => .skip) = true := by kernel_rfl
theorem ok12 : okCode Tryd.prog 14 (match Tryd.f12.body with | some c => c | none => .skip) = true := by kernel_rfl
theorem co58 : Tryd.prog.concrete 58 = true := by kernel_rfl
theorem bd62_0 : ∀ (x0 : Int) , abuild Tryd.prog 62 #[(0, .int .i64 x0)] = some (.agg #[.int .i64 x0, .int .i64 0, .int .i64 0, .nilIface, .int .i64 0, .int .u64 0, .bool false, .int .i64 0, .slice none 0 0, .int .i64 0, .slice none 0 0]) := by intros; kernel_rfl
theorem sz62 : asize Tryd.prog 62 = some 11 := by kernel_rfl
theorem ok13 : okCode Tryd.prog 15 (match Tryd.f13.body with | some c => c | none => .skip) = true := by kernel_rfl
theorem ok14 : okCode Tryd.prog 57 (match Tryd.f14.body with | some c => c | none => .skip) = true := by kernel_rfl
theorem ok15 : okCode Tryd.prog 99 (match Tryd.f15.body with | some c => c | none => .skip) = true := by kernel_rfl
theorem fa62_3 : ∀ b o L : Nat, afieldAddr Tryd.prog 62 3 (.pointer (some ⟨b, o, some L⟩)) = some (.pointer (some ⟨b, o + 3, some L⟩)) := by intros; kernel_rfl
theorem ag24 : isAgg? Tryd.prog 24 = some false := by kernel_rfl
theorem sz24 : asize Tryd.prog 24 = some 1 := by kernel_rfl
theorem fa62_2 : ∀ b o L : Nat, afieldAddr Tryd.prog 62 2 (.pointer (some ⟨b, o, some L⟩)) = some (.pointer (some ⟨b, o + 2, some L⟩)) := by intros; kernel_rfl
theorem ag59 : isAgg? Tryd.prog 59 = some false := by kernel_rfl
theorem sz59 : asize Tryd.prog 59 = some 1 := by kernel_rfl
theorem u59 : Tryd.prog.underlying 59 = some (.int .i64) := by kernel_rfl
theorem fa62_5 : ∀ b o L : Nat, afieldAddr Tryd.prog 62 5 (.pointer (some ⟨b, o, some L⟩)) = some (.pointer (some ⟨b, o + 5, some L⟩)) := by intros; kernel_rfl
theorem ag60 : isAgg? Tryd.prog 60 = some false := by kernel_rfl
theorem sz60 : asize Tryd.prog 60 = some 1 := by kernel_rfl
theorem u60 : Tryd.prog.underlying 60 = some (.int .u64) := by kernel_rfl
theorem fa62_1 : ∀ b o L : Nat, afieldAddr Tryd.prog 62 1 (.pointer (some ⟨b, o, some L⟩)) = some (.pointer (some ⟨b, o + 1, some L⟩)) := by intros; kernel_rfl
theorem ag5 : isAgg? Tryd.prog 5 = some false := by kernel_rfl
theorem ca32 : callable Tryd.prog 32 = true := by kernel_rfl
theorem ok16 : okCode Tryd.prog 7 (match Tryd.f16.body with | some c => c | none => .skip) = true := by kernel_rfl
theorem ok17 : okCode Tryd.prog 26 (match Tryd.f17.body with | some c => c | none => .skip) = true := by kernel_rfl
theorem ag66 : isAgg? Tryd.prog 66 = some true := by kernel_rfl
theorem ok18 : okCode Tryd.prog 10 (match Tryd.f18.body with | some c => c | none => .skip) = true := by kernel_rfl
theorem fa62_10 : ∀ b o L : Nat, afieldAddr Tryd.prog 62 10 (.pointer (some ⟨b, o, some L⟩)) = some (.pointer (some ⟨b, o + 10, some L⟩)) := by intros; kernel_rfl
theorem ag41 : isAgg? Tryd.prog 41 = some false := by kernel_rfl
theorem sz41 : asize Tryd.prog 41 = some 1 := by kernel_rfl
theorem ca33 : callable Tryd.prog 33 = true := by kernel_rfl
theorem ok19 : okCode Tryd.prog 21 (match Tryd.f19.body with | some c => c | none => .skip) = true := by kernel_rfl
theorem ag62 : isAgg? Tryd.prog 62 = some true := by kernel_rfl
theorem ze62 : azero Tryd.prog 62 = some (.agg #[.int .i64 0, .int .i64 0, .int .i64 0, .nilIface, .int .i64 0, .int .u64 0, .bool false, .int .i64 0, .slice none 0 0, .int .i64 0, .slice none 0 0]) := by kernel_rfl
theorem sc62 : scalar (.agg #[.int .i64 0, .int .i64 0, .int .i64 0, .nilIface, .int .i64 0, .int .u64 0, .bool false, .int .i64 0, .slice none 0 0, .int .i64 0, .slice none 0 0]) = true := by simp [scalar, leaf]
theorem fa62_8 : ∀ b o L : Nat, afieldAddr Tryd.prog 62 8 (.pointer (some ⟨b, o, some L⟩)) = some (.pointer (some ⟨b, o + 8, some L⟩)) := by intros; kernel_rfl
theorem ca34 : callable Tryd.prog 34 = true := by kernel_rfl
theorem ok20 : okCode Tryd.prog 12 (match Tryd.f20.body with | some c => c | none => .skip) = true := by kernel_rfl
theorem ok21 : okCode Tryd.prog 9 (match Tryd.f21.body with | some c => c | none => .skip) = true := by kernel_rfl
theorem ok22 : okCode Tryd.prog 10 (match Tryd.f22.body with | some c => c | none => .skip) = true := by kernel_rfl
theorem ze58 : azero Tryd.prog 58 = some (.int .i64 0) := by kernel_rfl
theorem sc58 : scalar (.int .i64 0) = true := by simp [scalar, leaf]
theorem sz58 : asize Tryd.prog 58 = some 1 := by kernel_rfl
theorem co69 : Tryd.prog.concrete 69 = true := by kernel_rfl
theorem ca35 : callable Tryd.prog 35 = true := by kernel_rfl
theorem ag58 : isAgg? Tryd.prog 58 = some false := by kernel_rfl
theorem u58 : Tryd.prog.underlying 58 = some (.int .i64) := by kernel_rfl
theorem ok23 : okCode Tryd.prog 72 (match Tryd.f23.body with | some c => c | none => .skip) = true := by kernel_rfl
theorem ca36 : callable Tryd.prog 36 = true := by kernel_rfl
theorem fa28_0 : ∀ b o L : Nat, afieldAddr Tryd.prog 28 0 (.pointer (some ⟨b, o, some L⟩)) = some (.pointer (some ⟨b, o + 0, some L⟩)) := by intros; kernel_rfl
theorem fa28_1 : ∀ b o L : Nat, afieldAddr Tryd.prog 28 1 (.pointer (some ⟨b, o, some L⟩)) = some (.pointer (some ⟨b, o + 1, some L⟩)) := by intros; kernel_rfl
theorem sz73 : asize Tryd.prog 73 = some 7 := by kernel_rfl
theorem fa73_3 : ∀ b o L : Nat, afieldAddr Tryd.prog 73 3 (.pointer (some ⟨b, o, some L⟩)) = some (.pointer (some ⟨b, o + 4, some L⟩)) := by intros; kernel_rfl
theorem sz34 : asize Tryd.prog 34 = some 1 := by kernel_rfl
theorem ok24 : okCode Tryd.prog 165 (match Tryd.f24.body with | some c => c | none => .skip) = true := by kernel_rfl
theorem fa73_4 : ∀ b o L : Nat, afieldAddr Tryd.prog 73 4 (.pointer (some ⟨b, o, some L⟩)) = some (.pointer (some ⟨b, o + 5, some L⟩)) := by intros; kernel_rfl
theorem ag4 : isAgg? Tryd.prog 4 = some false := by kernel_rfl
theorem sz4 : asize Tryd.prog 4 = some 1 := by kernel_rfl
theorem fa73_5 : ∀ b o L : Nat, afieldAddr Tryd.prog 73 5 (.pointer (some ⟨b, o, some L⟩)) = some (.pointer (some ⟨b, o + 6, some L⟩)) := by intros; kernel_rfl
theorem fa73_0 : ∀ b o L : Nat, afieldAddr Tryd.prog 73 0 (.pointer (some ⟨b, o, some L⟩)) = some (.pointer (some ⟨b, o + 0, some L⟩)) := by intros; kernel_rfl
theorem ag34 : isAgg? Tryd.prog 34 = some false := by kernel_rfl
theorem fa73_2 : ∀ b o L : Nat, afieldAddr Tryd.prog 73 2 (.pointer (some ⟨b, o, some L⟩)) = some (.pointer (some ⟨b, o + 3, some L⟩)) := by intros; kernel_rfl
theorem fa73_1 : ∀ b o L : Nat, afieldAddr Tryd.prog 73 1 (.pointer (some ⟨b, o, some L⟩)) = some (.pointer (some ⟨b, o + 2, some L⟩)) := by intros; kernel_rfl
theorem ok25 : okCode Tryd.prog 41 (match Tryd.f25.body with | some c => c | none => .skip) = true := by kernel_rfl
theorem ok26 : okCode Tryd.prog 11 (match Tryd.f26.body with | some c => c | none => .skip) = true := by kernel_rfl
theorem ok27 : okCode Tryd.prog 26 (match Tryd.f27.body with | some c => c | none => .skip) = true := by kernel_rfl
theorem ok28 : okCode Tryd.prog 24 (match Tryd.f28.body with | some c => c | none => .skip) = true := by kernel_rfl
theorem ok29 : okCode Tryd.prog 66 (match Tryd.f29.body with | some c => c | none => .skip) = true := by kernel_rfl
theorem fa66_0 : ∀ b o L : Nat, afieldAddr Tryd.prog 66 0 (.pointer (some ⟨b, o, some L⟩)) = some (.pointer (some ⟨b, o + 0, some L⟩)) := by intros; kernel_rfl
theorem ag9 : isAgg? Tryd.prog 9 = some false := by kernel_rfl
theorem sz9 : asize Tryd.prog 9 = some 1 := by kernel_rfl
theorem ca37 : callable Tryd.prog 37 = true := by kernel_rfl
theorem fa66_1 : ∀ b o L : Nat, afieldAddr Tryd.prog 66 1 (.pointer (some ⟨b, o, some L⟩)) = some (.pointer (some ⟨b, o + 1, some L⟩)) := by intros; kernel_rfl
theorem ca38 : callable Tryd.prog 38 = true := by kernel_rfl
theorem ca39 : callable Tryd.prog 39 = true := by kernel_rfl
theorem ca40 : callable Tryd.prog 40 = true := by kernel_rfl
theorem ok30 : okCode Tryd.prog 17 (match Tryd.f30.body with | some c => c | none => .skip) = true := by kernel_rfl
theorem ca41 : callable Tryd.prog 41 = true := by kernel_rfl
theorem ok31 : okCode Tryd.prog 44 (match Tryd.f31.body with | some c => c | none => .skip) = true := by kernel_rfl
theorem ok32 : okCode Tryd.prog 48 (match Tryd.f32.body with | some c => c | none => .skip) = true := by kernel_rfl
theorem ca42 : callable Tryd.prog 42 = true := by kernel_rfl
theorem ca43 : callable Tryd.prog 43 = true := by kernel_rfl
theorem ca44 : callable Tryd.prog 44 = true := by kernel_rfl
theorem ca45 : callable Tryd.prog 45 = true := by kernel_rfl
theorem fa62_4 : ∀ b o L : Nat, afieldAddr Tryd.prog 62 4 (.pointer (some ⟨b, o, some L⟩)) = some (.pointer (some ⟨b, o + 4, some L⟩)) := by intros; kernel_rfl
theorem fa62_6 : ∀ b o L : Nat, afieldAddr Tryd.prog 62 6 (.pointer (some ⟨b, o, some L⟩)) = some (.pointer (some ⟨b, o + 6, some L⟩)) := by intros; kernel_rfl
theorem fa62_7 : ∀ b o L : Nat, afieldAddr Tryd.prog 62 7 (.pointer (some ⟨b, o, some L⟩)) = some (.pointer (some ⟨b, o + 7, some L⟩)) := by intros; kernel_rfl
theorem ca46 : callable Tryd.prog 46 = true := by kernel_rfl
theorem ok33 : okCode Tryd.prog 8 (match Tryd.f33.body with | some c => c | none => .skip) = true := by kernel_rfl
theorem ok34 : okCode Tryd.prog 8 (match Tryd.f34.body with | some c => c | none => .skip) = true := by kernel_rfl
theorem ok35 : okCode Tryd.prog 42 (match Tryd.f35.body with | some c => c | none => .skip) = true := by kernel_rfl
theorem co9 : Tryd.prog.concrete 9 = true := by kernel_rfl
theorem ze83 : azero Tryd.prog 83 = some (.agg #[.pointer none, .pointer none, .int .u64 0]) := by kernel_rfl
theorem sc83 : scalar (.agg #[.pointer none, .pointer none, .int .u64 0]) = true := by simp [scalar, leaf]
theorem sz83 : asize Tryd.prog 83 = some 3 := by kernel_rfl
theorem ag83 : isAgg? Tryd.prog 83 = some true := by kernel_rfl
theorem u88 : Tryd.prog.underlying 88 = some (.int .u8) := by kernel_rfl
theorem ag86 : isAgg? Tryd.prog 86 = some false := by kernel_rfl
theorem sz86 : asize Tryd.prog 86 = some 1 := by kernel_rfl
theorem ca50 : callable Tryd.prog 50 = true := by kernel_rfl
theorem ok36 : okCode Tryd.prog 52 (match Tryd.f36.body with | some c => c | none => .skip) = true := by kernel_rfl
theorem ca51 : callable Tryd.prog 51 = true := by kernel_rfl
theorem ca52 : callable Tryd.prog 52 = true := by kernel_rfl
theorem ca53 : callable Tryd.prog 53 = true := by kernel_rfl
theorem bd66_0_1 : ∀ (x0 : ByteArray) (x1 : ByteArray) , abuild Tryd.prog 66 #[(0, .string x0), (1, .string x1)] = some (.agg #[.string x0, .string x1]) := by intros; kernel_rfl
theorem ok37 : okCode Tryd.prog 17 (match Tryd.f37.body with | some c => c | none => .skip) = true := by kernel_rfl
theorem ca54 : callable Tryd.prog 54 = true := by kernel_rfl
theorem ok38 : okCode Tryd.prog 5 (match Tryd.f38.body with | some c => c | none => .skip) = true := by kernel_rfl
theorem ca55 : callable Tryd.prog 55 = true := by kernel_rfl
theorem ok39 : okCode Tryd.prog 13 (match Tryd.f39.body with | some c => c | none => .skip) = true := by kernel_rfl
theorem ok40 : okCode Tryd.prog 36 (match Tryd.f40.body with | some c => c | none => .skip) = true := by kernel_rfl
theorem ca56 : callable Tryd.prog 56 = true := by kernel_rfl
theorem ok41 : okCode Tryd.prog 11 (match Tryd.f41.body with | some c => c | none => .skip) = true := by kernel_rfl
theorem ca57 : callable Tryd.prog 57 = true := by kernel_rfl
theorem ok42 : okCode Tryd.prog 85 (match Tryd.f42.body with | some c => c | none => .skip) = true := by kernel_rfl
theorem ca58 : callable Tryd.prog 58 = true := by kernel_rfl
theorem ok43 : okCode Tryd.prog 30 (match Tryd.f43.body with | some c => c | none => .skip) = true := by kernel_rfl
theorem ok44 : okCode Tryd.prog 49 (match Tryd.f44.body with | some c => c | none => .skip) = true := by kernel_rfl
theorem fa62_0 : ∀ b o L : Nat, afieldAddr Tryd.prog 62 0 (.pointer (some ⟨b, o, some L⟩)) = some (.pointer (some ⟨b, o + 0, some L⟩)) := by intros; kernel_rfl
theorem ok45 : okCode Tryd.prog 19 (match Tryd.f45.body with | some c => c | none => .skip) = true := by kernel_rfl
theorem ok46 : okCode Tryd.prog 129 (match Tryd.f46.body with | some c => c | none => .skip) = true := by kernel_rfl
theorem ca59 : callable Tryd.prog 59 = true := by kernel_rfl
theorem fa62_9 : ∀ b o L : Nat, afieldAddr Tryd.prog 62 9 (.pointer (some ⟨b, o, some L⟩)) = some (.pointer (some ⟨b, o + 9, some L⟩)) := by intros; kernel_rfl
theorem ca60 : callable Tryd.prog 60 = true := by kernel_rfl
theorem ok50 : okCode Tryd.prog 62 (match Tryd.f50.body with | some c => c | none => .skip) = true := by kernel_rfl
theorem u112 : Tryd.prog.underlying 112 = some (.slice 24) := by kernel_rfl
theorem ze24 : azero Tryd.prog 24 = some (.nilIface) := by kernel_rfl
theorem sc24 : scalar (.nilIface) = true := by simp [scalar, leaf]
theorem by24 : abytes Tryd.prog 24 = some 16 := by kernel_rfl
theorem ok51 : okCode Tryd.prog 22 (match Tryd.f51.body with | some c => c | none => .skip) = true := by kernel_rfl
theorem ok52 : okCode Tryd.prog 17 (match Tryd.f52.body with | some c => c | none => .skip) = true := by kernel_rfl
theorem ca64 : callable Tryd.prog 64 = true := by kernel_rfl
theorem ok53 : okCode Tryd.prog 13 (match Tryd.f53.body with | some c => c | none => .skip) = true := by kernel_rfl
theorem ca65 : callable Tryd.prog 65 = true := by kernel_rfl
theorem ok54 : okCode Tryd.prog 14 (match Tryd.f54.body with | some c => c | none => .skip) = true := by kernel_rfl
theorem ca66 : callable Tryd.prog 66 = true := by kernel_rfl
theorem ca67 : callable Tryd.prog 67 = true := by kernel_rfl
theorem ca68 : callable Tryd.prog 68 = true := by kernel_rfl
theorem ok55 : okCode Tryd.prog 43 (match Tryd.f55.body with | some c => c | none => .skip) = true := by kernel_rfl
theorem ca70 : callable Tryd.prog 70 = true := by kernel_rfl
theorem ca69 : callable Tryd.prog 69 = true := by kernel_rfl
theorem ca71 : callable Tryd.prog 71 = true := by kernel_rfl
theorem ze118 : azero Tryd.prog 118 = some (.agg #[.bool false, .bool false, .bool false, .bool false, .bool false, .bool false, .bool false, .bool false, .bool false, .bool false, .bool false, .bool false, .bool false, .bool false, .bool false, .bool false, .bool false, .bool false, .bool false, .bool false, .bool false, .bool false, .bool false, .bool false, .bool false, .bool false, .bool false, .bool false, .bool false, .bool false, .bool false, .bool false, .bool false, .bool false, .bool false, .bool false, .bool false, .bool false, .bool false, .bool false, .bool false, .bool false, .bool false, .bool false, .bool false, .bool false, .bool false, .bool false, .bool false, .bool false, .bool false, .bool false, .bool false, .bool false, .bool false, .bool false, .bool false, .bool false, .bool false, .bool false, .bool false, .bool false, .bool false, .bool false, .bool false, .bool false, .bool false, .bool false, .bool false, .bool false, .bool false, .bool false, .bool false, .bool false, .bool false, .bool false, .bool false, .bool false, .bool false, .bool false, .bool false, .bool false, .bool false, .bool false, .bool false, .bool false, .bool false, .bool false, .bool false, .bool false, .bool false, .bool false, .bool false, .bool false, .bool false, .bool false, .bool false, .bool false, .bool false, .bool false, .bool false, .bool false, .bool false, .bool false, .bool false, .bool false, .bool false, .bool false, .bool false, .bool false, .bool false, .bool false, .bool false, .bool false, .bool false, .bool false, .bool false, .bool false, .bool false, .bool false, .bool false, .bool false, .bool false, .bool false, .bool false, .bool false, .bool false, .bool false, .bool false, .bool false, .bool false, .bool false, .bool false, .bool false, .bool false, .bool false, .bool false, .bool false, .bool false, .bool false, .bool false, .bool false, .bool false, .bool false, .bool false, .bool false, .bool false, .bool false, .bool false, .bool false, .bool false, .bool false, .bool false, .bool false, .bool false, .bool false, .bool false, .bool false, .bool false, .bool false, .bool false, .bool false, .bool false, .bool false, .bool false, .bool false, .bool false, .bool false, .bool false, .bool false, .bool false, .bool false, .bool false, .bool false, .bool false, .bool false, .bool false, .bool false, .bool false, .bool false, .bool false, .bool false, .bool false, .bool false, .bool false, .bool false, .bool false, .bool false, .bool false, .bool false, .bool false, .bool false, .bool false, .bool false, .bool false, .bool false, .bool false, .bool false, .bool false, .bool false, .bool false, .bool false, .bool false, .bool false, .bool false, .bool false, .bool false, .bool false, .bool false, .bool false, .bool false, .bool false, .bool false, .bool false, .bool false, .bool false, .bool false, .bool false, .bool false, .bool false, .bool false, .bool false, .bool false, .bool false, .bool false, .bool false, .bool false, .bool false, .bool false, .bool false, .bool false, .bool false, .bool false, .bool false, .bool false, .bool false, .bool false, .bool false, .bool false, .bool false, .bool false, .bool false, .bool false, .bool false, .bool false, .bool false, .bool false, .bool false, .bool false, .bool false, .bool false, .bool false, .bool false, .bool false, .bool false, .bool false]) := by kernel_rfl
theorem sc118 : scalar (.agg #[.bool false, .bool false, .bool false, .bool false, .bool false, .bool false, .bool false, .bool false, .bool false, .bool false, .bool false, .bool false, .bool false, .bool false, .bool false, .bool false, .bool false, .bool false, .bool false, .bool false, .bool false, .bool false, .bool false, .bool false, .bool false, .bool false, .bool false, .bool false, .bool false, .bool false, .bool false, .bool false, .bool false, .bool false, .bool false, .bool false, .bool false, .bool false, .bool false, .bool false, .bool false, .bool false, .bool false, .bool false, .bool false, .bool false, .bool false, .bool false, .bool false, .bool false, .bool false, .bool false, .bool false, .bool false, .bool false, .bool false, .bool false, .bool false, .bool false, .bool false, .bool false, .bool false, .bool false, .bool false, .bool false, .bool false, .bool false, .bool false, .bool false, .bool false, .bool false, .bool false, .bool false, .bool false, .bool false, .bool false, .bool false, .bool false, .bool false, .bool false, .bool false, .bool false, .bool false, .bool false, .bool false, .bool false, .bool false, .bool false, .bool false, .bool false, .bool false, .bool false, .bool false, .bool false, .bool false, .bool false, .bool false, .bool false, .bool false, .bool false, .bool false, .bool false, .bool false, .bool false, .bool false, .bool false, .bool false, .bool false, .bool false, .bool false, .bool false, .bool false, .bool false, .bool false, .bool false, .bool false, .bool false, .bool false, .bool false, .bool false, .bool false, .bool false, .bool false, .bool false, .bool false, .bool false, .bool false, .bool false, .bool false, .bool false, .bool false, .bool false, .bool false, .bool false, .bool false, .bool false, .bool false, .bool false, .bool false, .bool false, .bool false, .bool false, .bool false, .bool false, .bool false, .bool false, .bool false, .bool false, .bool false, .bool false, .bool false, .bool false, .bool false, .bool false, .bool false, .bool false, .bool false, .bool false, .bool false, .bool false, .bool false, .bool false, .bool false, .bool false, .bool false, .bool false, .bool false, .bool false, .bool false, .bool false, .bool false, .bool false, .bool false, .bool false, .bool false, .bool false, .bool false, .bool false, .bool false, .bool false, .bool false, .bool false, .bool false, .bool false, .bool false, .bool false, .bool false, .bool false, .bool false, .bool false, .bool false, .bool false, .bool false, .bool false, .bool false, .bool false, .bool false, .bool false, .bool false, .bool false, .bool false, .bool false, .bool false, .bool false, .bool false, .bool false, .bool false, .bool false, .bool false, .bool false, .bool false, .bool false, .bool false, .bool false, .bool false, .bool false, .bool false, .bool false, .bool false, .bool false, .bool false, .bool false, .bool false, .bool false, .bool false, .bool false, .bool false, .bool false, .bool false, .bool false, .bool false, .bool false, .bool false, .bool false, .bool false, .bool false, .bool false, .bool false, .bool false, .bool false, .bool false, .bool false, .bool false, .bool false, .bool false, .bool false, .bool false, .bool false, .bool false, .bool false, .bool false, .bool false, .bool false, .bool false, .bool false, .bool false]) = true := by simp [scalar, leaf]
theorem sz118 : asize Tryd.prog 118 = some 256 := by kernel_rfl
theorem u118 : Tryd.prog.underlying 118 = some (.array 256 4) := by kernel_rfl
theorem ca73 : callable Tryd.prog 73 = true := by kernel_rfl
theorem ca72 : callable Tryd.prog 72 = true := by kernel_rfl
theorem ca75 : callable Tryd.prog 75 = true := by kernel_rfl
theorem ca74 : callable Tryd.prog 74 = true := by kernel_rfl
theorem ok56 : okCode Tryd.prog 27 (match Tryd.f56.body with | some c => c | none => .skip) = true := by kernel_rfl
theorem ok57 : okCode Tryd.prog 21 (match Tryd.f57.body with | some c => c | none => .skip) = true := by kernel_rfl
theorem u2 : Tryd.prog.underlying 2 = some (.int .i64) := by kernel_rfl
theorem ca76 : callable Tryd.prog 76 = true := by kernel_rfl
theorem ok58 : okCode Tryd.prog 32 (match Tryd.f58.body with | some c => c | none => .skip) = true := by kernel_rfl
theorem ok59 : okCode Tryd.prog 71 (match Tryd.f59.body with | some c => c | none => .skip) = true := by kernel_rfl
theorem ca77 : callable Tryd.prog 77 = true := by kernel_rfl
theorem ok60 : okCode Tryd.prog 8 (match Tryd.f60.body with | some c => c | none => .skip) = true := by kernel_rfl
theorem ok64 : okCode Tryd.prog 29 (match Tryd.f64.body with | some c => c | none => .skip) = true := by kernel_rfl
theorem ok65 : okCode Tryd.prog 27 (match Tryd.f65.body with | some c => c | none => .skip) = true := by kernel_rfl
theorem ze126 : azero Tryd.prog 126 = some (.agg #[.int .u8 0, .int .u8 0, .int .u8 0, .int .u8 0, .int .u8 0, .int .u8 0, .int .u8 0, .int .u8 0, .int .u8 0, .int .u8 0, .int .u8 0, .int .u8 0, .int .u8 0, .int .u8 0, .int .u8 0, .int .u8 0, .int .u8 0, .int .u8 0, .int .u8 0, .int .u8 0]) := by kernel_rfl
theorem sc126 : scalar (.agg #[.int .u8 0, .int .u8 0, .int .u8 0, .int .u8 0, .int .u8 0, .int .u8 0, .int .u8 0, .int .u8 0, .int .u8 0, .int .u8 0, .int .u8 0, .int .u8 0, .int .u8 0, .int .u8 0, .int .u8 0, .int .u8 0, .int .u8 0, .int .u8 0, .int .u8 0, .int .u8 0]) = true := by simp [scalar, leaf]
theorem sz126 : asize Tryd.prog 126 = some 20 := by kernel_rfl
theorem u126 : Tryd.prog.underlying 126 = some (.array 20 5) := by kernel_rfl
theorem ok66 : okCode Tryd.prog 9 (match Tryd.f66.body with | some c => c | none => .skip) = true := by kernel_rfl
theorem ok67 : okCode Tryd.prog 17 (match Tryd.f67.body with | some c => c | none => .skip) = true := by kernel_rfl
theorem ok68 : okCode Tryd.prog 8 (match Tryd.f68.body with | some c => c | none => .skip) = true := by kernel_rfl
theorem ca79 : callable Tryd.prog 79 = true := by kernel_rfl
theorem ok69 : okCode Tryd.prog 17 (match Tryd.f69.body with | some c => c | none => .skip) = true := by kernel_rfl
theorem ok70 : okCode Tryd.prog 23 (match Tryd.f70.body with | some c => c | none => .skip) = true := by kernel_rfl
theorem ok71 : okCode Tryd.prog 21 (match Tryd.f71.body with | some c => c | none => .skip) = true := by kernel_rfl
theorem ag118 : isAgg? Tryd.prog 118 = some true := by kernel_rfl
theorem ok72 : okCode Tryd.prog 16 (match Tryd.f72.body with | some c => c | none => .skip) = true := by kernel_rfl
theorem ca80 : callable Tryd.prog 80 = true := by kernel_rfl
theorem ok73 : okCode Tryd.prog 22 (match Tryd.f73.body with | some c => c | none => .skip) = true := by kernel_rfl
theorem ok74 : okCode Tryd.prog 23 (match Tryd.f74.body with | some c => c | none => .skip) = true := by kernel_rfl
theorem ca81 : callable Tryd.prog 81 = true := by kernel_rfl
theorem ca82 : callable Tryd.prog 82 = true := by kernel_rfl
theorem ok75 : okCode Tryd.prog 34 (match Tryd.f75.body with | some c => c | none => .skip) = true := by kernel_rfl
theorem u21 : Tryd.prog.underlying 21 = some (.int .i32) := by kernel_rfl
theorem ca83 : callable Tryd.prog 83 = true := by kernel_rfl
theorem ok76 : okCode Tryd.prog 36 (match Tryd.f76.body with | some c => c | none => .skip) = true := by kernel_rfl
theorem ca84 : callable Tryd.prog 84 = true := by kernel_rfl
theorem ze130 : azero Tryd.prog 130 = some (.agg #[.int .u8 0, .int .u8 0, .int .u8 0, .int .u8 0, .int .u8 0, .int .u8 0, .int .u8 0, .int .u8 0, .int .u8 0, .int .u8 0, .int .u8 0, .int .u8 0, .int .u8 0, .int .u8 0, .int .u8 0, .int .u8 0, .int .u8 0, .int .u8 0, .int .u8 0, .int .u8 0, .int .u8 0, .int .u8 0, .int .u8 0, .int .u8 0]) := by kernel_rfl
theorem sc130 : scalar (.agg #[.int .u8 0, .int .u8 0, .int .u8 0, .int .u8 0, .int .u8 0, .int .u8 0, .int .u8 0, .int .u8 0, .int .u8 0, .int .u8 0, .int .u8 0, .int .u8 0, .int .u8 0, .int .u8 0, .int .u8 0, .int .u8 0, .int .u8 0, .int .u8 0, .int .u8 0, .int .u8 0, .int .u8 0, .int .u8 0, .int .u8 0, .int .u8 0]) = true := by simp [scalar, leaf]
theorem sz130 : asize Tryd.prog 130 = some 24 := by kernel_rfl
theorem ca85 : callable Tryd.prog 85 = true := by kernel_rfl
theorem u130 : Tryd.prog.underlying 130 = some (.array 24 5) := by kernel_rfl
theorem ca86 : callable Tryd.prog 86 = true := by kernel_rfl
theorem ca87 : callable Tryd.prog 87 = true := by kernel_rfl
theorem ok77 : okCode Tryd.prog 23 (match Tryd.f77.body with | some c => c | none => .skip) = true := by kernel_rfl
theorem ca88 : callable Tryd.prog 88 = true := by kernel_rfl
theorem ok79 : okCode Tryd.prog 8 (match Tryd.f79.body with | some c => c | none => .skip) = true := by kernel_rfl
theorem ok80 : okCode Tryd.prog 10 (match Tryd.f80.body with | some c => c | none => .skip) = true := by kernel_rfl
theorem ok81 : okCode Tryd.prog 19 (match Tryd.f81.body with | some c => c | none => .skip) = true := by kernel_rfl
theorem ca90 : callable Tryd.prog 90 = true := by kernel_rfl
theorem ok82 : okCode Tryd.prog 9 (match Tryd.f82.body with | some c => c | none => .skip) = true := by kernel_rfl
theorem ca91 : callable Tryd.prog 91 = true := by kernel_rfl
theorem ok83 : okCode Tryd.prog 51 (match Tryd.f83.body with | some c => c | none => .skip) = true := by kernel_rfl
theorem ca92 : callable Tryd.prog 92 = true := by kernel_rfl
theorem ok84 : okCode Tryd.prog 15 (match Tryd.f84.body with | some c => c | none => .skip) = true := by kernel_rfl
theorem ok85 : okCode Tryd.prog 15 (match Tryd.f85.body with | some c => c | none => .skip) = true := by kernel_rfl
theorem ca94 : callable Tryd.prog 94 = true := by kernel_rfl
theorem ca93 : callable Tryd.prog 93 = true := by kernel_rfl
theorem u139 : Tryd.prog.underlying 139 = some (.array 20 60) := by kernel_rfl
theorem ca95 : callable Tryd.prog 95 = true := by kernel_rfl
theorem ok86 : okCode Tryd.prog 167 (match Tryd.f86.body with | some c => c | none => .skip) = true := by kernel_rfl
theorem u140 : Tryd.prog.underlying 140 = some (.int .u32) := by kernel_rfl
theorem ok87 : okCode Tryd.prog 102 (match Tryd.f87.body with | some c => c | none => .skip) = true := by kernel_rfl
theorem ze141 : azero Tryd.prog 141 = some (.agg #[.int .u8 0, .int .u8 0, .int .u8 0, .int .u8 0, .int .u8 0, .int .u8 0, .int .u8 0, .int .u8 0, .int .u8 0, .int .u8 0, .int .u8 0, .int .u8 0, .int .u8 0, .int .u8 0, .int .u8 0, .int .u8 0, .int .u8 0, .int .u8 0, .int .u8 0, .int .u8 0, .int .u8 0, .int .u8 0, .int .u8 0, .int .u8 0, .int .u8 0, .int .u8 0, .int .u8 0, .int .u8 0, .int .u8 0, .int .u8 0, .int .u8 0, .int .u8 0, .int .u8 0, .int .u8 0, .int .u8 0, .int .u8 0, .int .u8 0, .int .u8 0, .int .u8 0, .int .u8 0, .int .u8 0, .int .u8 0, .int .u8 0, .int .u8 0, .int .u8 0, .int .u8 0, .int .u8 0, .int .u8 0, .int .u8 0, .int .u8 0, .int .u8 0, .int .u8 0, .int .u8 0, .int .u8 0, .int .u8 0, .int .u8 0, .int .u8 0, .int .u8 0, .int .u8 0, .int .u8 0, .int .u8 0, .int .u8 0, .int .u8 0, .int .u8 0, .int .u8 0]) := by kernel_rfl
theorem sc141 : scalar (.agg #[.int .u8 0, .int .u8 0, .int .u8 0, .int .u8 0, .int .u8 0, .int .u8 0, .int .u8 0, .int .u8 0, .int .u8 0, .int .u8 0, .int .u8 0, .int .u8 0, .int .u8 0, .int .u8 0, .int .u8 0, .int .u8 0, .int .u8 0, .int .u8 0, .int .u8 0, .int .u8 0, .int .u8 0, .int .u8 0, .int .u8 0, .int .u8 0, .int .u8 0, .int .u8 0, .int .u8 0, .int .u8 0, .int .u8 0, .int .u8 0, .int .u8 0, .int .u8 0, .int .u8 0, .int .u8 0, .int .u8 0, .int .u8 0, .int .u8 0, .int .u8 0, .int .u8 0, .int .u8 0, .int .u8 0, .int .u8 0, .int .u8 0, .int .u8 0, .int .u8 0, .int .u8 0, .int .u8 0, .int .u8 0, .int .u8 0, .int .u8 0, .int .u8 0, .int .u8 0, .int .u8 0, .int .u8 0, .int .u8 0, .int .u8 0, .int .u8 0, .int .u8 0, .int .u8 0, .int .u8 0, .int .u8 0, .int .u8 0, .int .u8 0, .int .u8 0, .int .u8 0]) = true := by simp [scalar, leaf]
theorem sz141 : asize Tryd.prog 141 = some 65 := by kernel_rfl
theorem ca96 : callable Tryd.prog 96 = true := by kernel_rfl
theorem ca97 : callable Tryd.prog 97 = true := by kernel_rfl
theorem u141 : Tryd.prog.underlying 141 = some (.array 65 5) := by kernel_rfl
theorem ok88 : okCode Tryd.prog 200 (match Tryd.f88.body with | some c => c | none => .skip) = true := by kernel_rfl
theorem ca98 : callable Tryd.prog 98 = true := by kernel_rfl
theorem ca100 : callable Tryd.prog 100 = true := by kernel_rfl
theorem ca101 : callable Tryd.prog 101 = true := by kernel_rfl
theorem ok90 : okCode Tryd.prog 117 (match Tryd.f90.body with | some c => c | none => .skip) = true := by kernel_rfl
theorem u145 : Tryd.prog.underlying 145 = some (.array 256 5) := by kernel_rfl
theorem u148 : Tryd.prog.underlying 148 = some (.array 16 147) := by kernel_rfl
theorem sz147 : asize Tryd.prog 147 = some 2 := by kernel_rfl
theorem ag147 : isAgg? Tryd.prog 147 = some true := by kernel_rfl
theorem ze147 : azero Tryd.prog 147 = some (.agg #[.int .u8 0, .int .u8 0]) := by kernel_rfl
theorem sc147 : scalar (.agg #[.int .u8 0, .int .u8 0]) = true := by simp [scalar, leaf]
theorem fa147_0 : ∀ b o L : Nat, afieldAddr Tryd.prog 147 0 (.pointer (some ⟨b, o, some L⟩)) = some (.pointer (some ⟨b, o + 0, some L⟩)) := by intros; kernel_rfl
theorem fa147_1 : ∀ b o L : Nat, afieldAddr Tryd.prog 147 1 (.pointer (some ⟨b, o, some L⟩)) = some (.pointer (some ⟨b, o + 1, some L⟩)) := by intros; kernel_rfl
theorem ca102 : callable Tryd.prog 102 = true := by kernel_rfl
theorem ok92 : okCode Tryd.prog 6 (match Tryd.f92.body with | some c => c | none => .skip) = true := by kernel_rfl
theorem ok93 : okCode Tryd.prog 6 (match Tryd.f93.body with | some c => c | none => .skip) = true := by kernel_rfl
theorem ok94 : okCode Tryd.prog 25 (match Tryd.f94.body with | some c => c | none => .skip) = true := by kernel_rfl
theorem ok95 : okCode Tryd.prog 4 (match Tryd.f95.body with | some c => c | none => .skip) = true := by kernel_rfl
theorem ok96 : okCode Tryd.prog 8 (match Tryd.f96.body with | some c => c | none => .skip) = true := by kernel_rfl
theorem ok97 : okCode Tryd.prog 8 (match Tryd.f97.body with | some c => c | none => .skip) = true := by kernel_rfl
theorem ca104 : callable Tryd.prog 104 = true := by kernel_rfl
theorem ca105 : callable Tryd.prog 105 = true := by kernel_rfl
theorem ok98 : okCode Tryd.prog 10 (match Tryd.f98.body with | some c => c | none => .skip) = true := by kernel_rfl
theorem ok100 : okCode Tryd.prog 6 (match Tryd.f100.body with | some c => c | none => .skip) = true := by kernel_rfl
theorem ok101 : okCode Tryd.prog 88 (match Tryd.f101.body with | some c => c | none => .skip) = true := by kernel_rfl
theorem ca106 : callable Tryd.prog 106 = true := by kernel_rfl
theorem ok102 : okCode Tryd.prog 17 (match Tryd.f102.body with | some c => c | none => .skip) = true := by kernel_rfl
theorem ok104 : okCode Tryd.prog 14 (match Tryd.f104.body with | some c => c | none => .skip) = true := by kernel_rfl
theorem u154 : Tryd.prog.underlying 154 = some (.array 32 5) := by kernel_rfl
theorem ok105 : okCode Tryd.prog 14 (match Tryd.f105.body with | some c => c | none => .skip) = true := by kernel_rfl
theorem u155 : Tryd.prog.underlying 155 = some (.array 64 5) := by kernel_rfl
theorem ok106 : okCode Tryd.prog 40 (match Tryd.f106.body with | some c => c | none => .skip) = true := by kernel_rfl
theorem bs22_3 : ∀ (x0 : Int) (x1 : Int) (x2 : Int) (S : St), abuildSlice Tryd.prog S 22 3 #[(0, .int .u8 x0), (1, .int .u8 x1), (2, .int .u8 x2)] = some (.slice (some ⟨S.next, 0, some 3⟩) 3 3, S.push ⟨[.int .u8 x0, .int .u8 x1, .int .u8 x2], 5, true, 0⟩) := by intros; kernel_rfl
theorem bs22_4 : ∀ (x0 : Int) (x1 : Int) (x2 : Int) (x3 : Int) (S : St), abuildSlice Tryd.prog S 22 4 #[(0, .int .u8 x0), (1, .int .u8 x1), (2, .int .u8 x2), (3, .int .u8 x3)] = some (.slice (some ⟨S.next, 0, some 4⟩) 4 4, S.push ⟨[.int .u8 x0, .int .u8 x1, .int .u8 x2, .int .u8 x3], 5, true, 0⟩) := by intros; kernel_rfl
theorem bs22_14 : ∀ (x0 : Int) (x1 : Int) (x2 : Int) (x3 : Int) (x4 : Int) (x5 : Int) (x6 : Int) (x7 : Int) (x8 : Int) (x9 : Int) (x10 : Int) (x11 : Int) (x12 : Int) (x13 : Int) (S : St), abuildSlice Tryd.prog S 22 14 #[(0, .int .u8 x0), (1, .int .u8 x1), (2, .int .u8 x2), (3, .int .u8 x3), (4, .int .u8 x4), (5, .int .u8 x5), (6, .int .u8 x6), (7, .int .u8 x7), (8, .int .u8 x8), (9, .int .u8 x9), (10, .int .u8 x10), (11, .int .u8 x11), (12, .int .u8 x12), (13, .int .u8 x13)] = some (.slice (some ⟨S.next, 0, some 14⟩) 14 14, S.push ⟨[.int .u8 x0, .int .u8 x1, .int .u8 x2, .int .u8 x3, .int .u8 x4, .int .u8 x5, .int .u8 x6, .int .u8 x7, .int .u8 x8, .int .u8 x9, .int .u8 x10, .int .u8 x11, .int .u8 x12, .int .u8 x13], 5, true, 0⟩) := by intros; kernel_rfl
theorem bs22_5 : ∀ (x0 : Int) (x1 : Int) (x2 : Int) (x3 : Int) (x4 : Int) (S : St), abuildSlice Tryd.prog S 22 5 #[(0, .int .u8 x0), (1, .int .u8 x1), (2, .int .u8 x2), (3, .int .u8 x3), (4, .int .u8 x4)] = some (.slice (some ⟨S.next, 0, some 5⟩) 5 5, S.push ⟨[.int .u8 x0, .int .u8 x1, .int .u8 x2, .int .u8 x3, .int .u8 x4], 5, true, 0⟩) := by intros; kernel_rfl
theorem bs22_2 : ∀ (x0 : Int) (x1 : Int) (S : St), abuildSlice Tryd.prog S 22 2 #[(0, .int .u8 x0), (1, .int .u8 x1)] = some (.slice (some ⟨S.next, 0, some 2⟩) 2 2, S.push ⟨[.int .u8 x0, .int .u8 x1], 5, true, 0⟩) := by intros; kernel_rfl
theorem bs41_0 : ∀ (S : St), abuildSlice Tryd.prog S 41 0 #[] = some (.slice (some ⟨S.next, 0, some 0⟩) 0 0, S.push ⟨[], 66, true, 0⟩) := by intros; kernel_rfl
theorem bs22_0 : ∀ (S : St), abuildSlice Tryd.prog S 22 0 #[] = some (.slice (some ⟨S.next, 0, some 0⟩) 0 0, S.push ⟨[], 5, true, 0⟩) := by intros; kernel_rfl
theorem bs41_1 : ∀ (x0 y0 : ByteArray) (S : St), abuildSlice Tryd.prog S 41 1 #[(0, .agg #[.string x0, .string y0])] = some (.slice (some ⟨S.next, 0, some 2⟩) 1 1, S.push ⟨[.string x0, .string y0], 66, true, 0⟩) := by intros; kernel_rfl
theorem bs22_1 : ∀ (x0 : Int) (S : St), abuildSlice Tryd.prog S 22 1 #[(0, .int .u8 x0)] = some (.slice (some ⟨S.next, 0, some 1⟩) 1 1, S.push ⟨[.int .u8 x0], 5, true, 0⟩) := by intros; kernel_rfl
def PF := And.intro @u22 (And.intro @sz5 (And.intro @ze5 (And.intro @sc5 (And.intro @u5 (And.intro @by5 (And.intro @u9 (And.intro @bd28_0_1 (And.intro @ca9 (And.intro @u3 (And.intro @u29 (And.intro @ca10 (And.intro @bd28_0 (And.intro @bd28_ (And.intro @ca11 (And.intro @ca12 (And.intro @u34 (And.intro @ca13 (And.intro @ca14 (And.intro @ca16 (And.intro @ca15 (And.intro @u33 (And.intro @sz3 (And.intro @ze3 (And.intro @sc3 (And.intro @by3 (And.intro @ag3 (And.intro @u4 (And.intro @ca18 (And.intro @ca17 (And.intro @ca19 (And.intro @ca20 (And.intro @ca21 (And.intro @u41 (And.intro @sz66 (And.intro @ze66 (And.intro @sc66 (And.intro @by66 (And.intro @u46 (And.intro @sz28 (And.intro @ze28 (And.intro @sc28 (And.intro @by28 (And.intro @ag28 (And.intro @ca22 (And.intro @ca23 (And.intro @u47 (And.intro @ca24 (And.intro @ca25 (And.intro @ca26 (And.intro @ca28 (And.intro @ca27 (And.intro @ca29 (And.intro @u52 (And.intro @sz22 (And.intro @ze22 (And.intro @sc22 (And.intro @by22 (And.intro @ag22 (And.intro @ca30 (And.intro @ca31 (And.intro @co58 (And.intro @bd62_0 (And.intro @sz62 (And.intro @fa62_3 (And.intro @ag24 (And.intro @sz24 (And.intro @fa62_2 (And.intro @ag59 (And.intro @sz59 (And.intro @u59 (And.intro @fa62_5 (And.intro @ag60 (And.intro @sz60 (And.intro @u60 (And.intro @fa62_1 (And.intro @ag5 (And.intro @ca32 (And.intro @ag66 (And.intro @fa62_10 (And.intro @ag41 (And.intro @sz41 (And.intro @ca33 (And.intro @ag62 (And.intro @ze62 (And.intro @sc62 (And.intro @fa62_8 (And.intro @ca34 (And.intro @ze58 (And.intro @sc58 (And.intro @sz58 (And.intro @co69 (And.intro @ca35 (And.intro @ag58 (And.intro @u58 (And.intro @ca36 (And.intro @fa28_0 (And.intro @fa28_1 (And.intro @sz73 (And.intro @fa73_3 (And.intro @sz34 (And.intro @fa73_4 (And.intro @ag4 (And.intro @sz4 (And.intro @fa73_5 (And.intro @fa73_0 (And.intro @ag34 (And.intro @fa73_2 (And.intro @fa73_1 (And.intro @fa66_0 (And.intro @ag9 (And.intro @sz9 (And.intro @ca37 (And.intro @fa66_1 (And.intro @ca38 (And.intro @ca39 (And.intro @ca40 (And.intro @ca41 (And.intro @ca42 (And.intro @ca43 (And.intro @ca44 (And.intro @ca45 (And.intro @fa62_4 (And.intro @fa62_6 (And.intro @fa62_7 (And.intro @ca46 (And.intro @co9 (And.intro @ze83 (And.intro @sc83 (And.intro @sz83 (And.intro @ag83 (And.intro @u88 (And.intro @ag86 (And.intro @sz86 (And.intro @ca50 (And.intro @ca51 (And.intro @ca52 (And.intro @ca53 (And.intro @bd66_0_1 (And.intro @ca54 (And.intro @ca55 (And.intro @ca56 (And.intro @ca57 (And.intro @ca58 (And.intro @fa62_0 (And.intro @ca59 (And.intro @fa62_9 (And.intro @ca60 (And.intro @u112 (And.intro @ze24 (And.intro @sc24 (And.intro @by24 (And.intro @ca64 (And.intro @ca65 (And.intro @ca66 (And.intro @ca67 (And.intro @ca68 (And.intro @ca70 (And.intro @ca69 (And.intro @ca71 (And.intro @ze118 (And.intro @sc118 (And.intro @sz118 (And.intro @u118 (And.intro @ca73 (And.intro @ca72 (And.intro @ca75 (And.intro @ca74 (And.intro @u2 (And.intro @ca76 (And.intro @ca77 (And.intro @ze126 (And.intro @sc126 (And.intro @sz126 (And.intro @u126 (And.intro @ca79 (And.intro @ag118 (And.intro @ca80 (And.intro @ca81 (And.intro @ca82 (And.intro @u21 (And.intro @ca83 (And.intro @ca84 (And.intro @ze130 (And.intro @sc130 (And.intro @sz130 (And.intro @ca85 (And.intro @u130 (And.intro @ca86 (And.intro @ca87 (And.intro @ca88 (And.intro @ca90 (And.intro @ca91 (And.intro @ca92 (And.intro @ca94 (And.intro @ca93 (And.intro @u139 (And.intro @ca95 (And.intro @u140 (And.intro @ze141 (And.intro @sc141 (And.intro @sz141 (And.intro @ca96 (And.intro @ca97 (And.intro @u141 (And.intro @ca98 (And.intro @ca100 (And.intro @ca101 (And.intro @u145 (And.intro @u148 (And.intro @sz147 (And.intro @ag147 (And.intro @ze147 (And.intro @sc147 (And.intro @fa147_0 (And.intro @fa147_1 (And.intro @ca102 (And.intro @ca104 (And.intro @ca105 (And.intro @ca106 (And.intro @u154 (And.intro @u155 (And.intro @bs22_3 (And.intro @bs22_4 (And.intro @bs22_14 (And.intro @bs22_5 (And.intro @bs22_2 (And.intro @bs41_0 (And.intro @bs22_0 (And.intro @bs41_1 (@bs22_1))))))))))))))))))))))))))))))))))))))))))))))))))))))))))))))))))))))))))))))))))))))))))))))))))))))))))))))))))))))))))))))))))))))))))))))))))))))))))))))))))))))))))))))))))))))))))))))))))))))))))))))))))))))))))))))))))))))
def UF := And.intro u22 (And.intro sz5 (And.intro u5 (And.intro u9 (And.intro u3 (And.intro u29 (And.intro u34 (And.intro u33 (And.intro sz3 (And.intro u4 (And.intro u41 (And.intro sz66 (And.intro u46 (And.intro sz28 (And.intro u47 (And.intro u52 (And.intro sz22 (And.intro sz62 (And.intro sz24 (And.intro sz59 (And.intro u59 (And.intro sz60 (And.intro u60 (And.intro sz41 (And.intro sz58 (And.intro u58 (And.intro sz73 (And.intro sz34 (And.intro sz4 (And.intro sz9 (And.intro sz83 (And.intro u88 (And.intro sz86 (And.intro u112 (And.intro sz118 (And.intro u118 (And.intro u2 (And.intro sz126 (And.intro u126 (And.intro u21 (And.intro sz130 (And.intro u130 (And.intro u139 (And.intro u140 (And.intro sz141 (And.intro u141 (And.intro u145 (And.intro u148 (And.intro sz147 (And.intro u154 u155)))))))))))))))))))))))))))))))))))))))))))))))))
end Go.Proofs.YtdfgdpjlbcnkfaaDoor.Q
