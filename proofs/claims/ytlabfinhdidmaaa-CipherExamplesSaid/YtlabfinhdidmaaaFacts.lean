/- Closed facts on types and functions of the program, written by a program. -/
import Derived.Test.YtlabfinhdidmaaaRange
import Derived.Test.YtlabfinhdidmaaaEq
import Derived.Test.YtlabfinhdidmaaaMore
import Derived.Test.YtlabfinhdidmaaaProg
namespace Go.Proofs.Ytlabfinhdidmaaa
theorem tyC1 : TyC Try.prog 1 := ⟨fun _ => by kernel_rfl, fun _ => by kernel_rfl⟩
abbrev z1 : Value := .nilFunc
theorem tyZ1 : TyZ Try.prog 1 z1 := fun _ => by kernel_rfl
theorem tyC2 : TyC Try.prog 2 := ⟨fun _ => by kernel_rfl, fun _ => by kernel_rfl⟩
abbrev z2 : Value := .int .i64 0
theorem tyZ2 : TyZ Try.prog 2 z2 := fun _ => by kernel_rfl
theorem tyC3 : TyC Try.prog 3 := ⟨fun _ => by kernel_rfl, fun _ => by kernel_rfl⟩
abbrev z3 : Value := .int .i64 0
theorem tyZ3 : TyZ Try.prog 3 z3 := fun _ => by kernel_rfl
theorem tyC4 : TyC Try.prog 4 := ⟨fun _ => by kernel_rfl, fun _ => by kernel_rfl⟩
abbrev z4 : Value := .bool false
theorem tyZ4 : TyZ Try.prog 4 z4 := fun _ => by kernel_rfl
theorem tyC5 : TyC Try.prog 5 := ⟨fun _ => by kernel_rfl, fun _ => by kernel_rfl⟩
abbrev z5 : Value := .int .u8 0
theorem tyZ5 : TyZ Try.prog 5 z5 := fun _ => by kernel_rfl
theorem tyC6 : TyC Try.prog 6 := ⟨fun _ => by kernel_rfl, fun _ => by kernel_rfl⟩
abbrev z6 : Value := .int .u8 0
theorem tyZ6 : TyZ Try.prog 6 z6 := fun _ => by kernel_rfl
theorem tyA7 : TyA Try.prog 7 4 := ⟨fun _ => by kernel_rfl, fun _ => by kernel_rfl⟩
abbrev z7 : List Value := [.int .i64 0, .int .i64 0, .bool false, .int .u8 0]
theorem tyZ7 : TyZ Try.prog 7 (.agg z7.toArray) := fun _ => by kernel_rfl
theorem tyA8 : TyA Try.prog 8 4 := ⟨fun _ => by kernel_rfl, fun _ => by kernel_rfl⟩
abbrev z8 : List Value := [.int .i64 0, .int .i64 0, .bool false, .int .u8 0]
theorem tyZ8 : TyZ Try.prog 8 (.agg z8.toArray) := fun _ => by kernel_rfl
theorem tyC9 : TyC Try.prog 9 := ⟨fun _ => by kernel_rfl, fun _ => by kernel_rfl⟩
theorem tyC10 : TyC Try.prog 10 := ⟨fun _ => by kernel_rfl, fun _ => by kernel_rfl⟩
theorem tyC11 : TyC Try.prog 11 := ⟨fun _ => by kernel_rfl, fun _ => by kernel_rfl⟩
theorem tyC12 : TyC Try.prog 12 := ⟨fun _ => by kernel_rfl, fun _ => by kernel_rfl⟩
abbrev z12 : Value := .int .u64 0
theorem tyZ12 : TyZ Try.prog 12 z12 := fun _ => by kernel_rfl
theorem tyA13 : TyA Try.prog 13 2 := ⟨fun _ => by kernel_rfl, fun _ => by kernel_rfl⟩
theorem tyA14 : TyA Try.prog 14 2 := ⟨fun _ => by kernel_rfl, fun _ => by kernel_rfl⟩
theorem tyC15 : TyC Try.prog 15 := ⟨fun _ => by kernel_rfl, fun _ => by kernel_rfl⟩
theorem tyC16 : TyC Try.prog 16 := ⟨fun _ => by kernel_rfl, fun _ => by kernel_rfl⟩
theorem tyC17 : TyC Try.prog 17 := ⟨fun _ => by kernel_rfl, fun _ => by kernel_rfl⟩
theorem tyA18 : TyA Try.prog 18 1 := ⟨fun _ => by kernel_rfl, fun _ => by kernel_rfl⟩
theorem tyA19 : TyA Try.prog 19 1 := ⟨fun _ => by kernel_rfl, fun _ => by kernel_rfl⟩
theorem tyC21 : TyC Try.prog 21 := ⟨fun _ => by kernel_rfl, fun _ => by kernel_rfl⟩
abbrev z21 : Value := .int .i32 0
theorem tyZ21 : TyZ Try.prog 21 z21 := fun _ => by kernel_rfl
theorem tyA22 : TyA Try.prog 22 16 := ⟨fun _ => by kernel_rfl, fun _ => by kernel_rfl⟩
abbrev z22 : List Value := [.int .u8 0, .int .u8 0, .int .u8 0, .int .u8 0, .int .u8 0, .int .u8 0, .int .u8 0, .int .u8 0, .int .u8 0, .int .u8 0, .int .u8 0, .int .u8 0, .int .u8 0, .int .u8 0, .int .u8 0, .int .u8 0]
theorem tyZ22 : TyZ Try.prog 22 (.agg z22.toArray) := fun _ => by kernel_rfl
theorem tyA23 : TyA Try.prog 23 16 := ⟨fun _ => by kernel_rfl, fun _ => by kernel_rfl⟩
abbrev z23 : List Value := [.int .u8 0, .int .u8 0, .int .u8 0, .int .u8 0, .int .u8 0, .int .u8 0, .int .u8 0, .int .u8 0, .int .u8 0, .int .u8 0, .int .u8 0, .int .u8 0, .int .u8 0, .int .u8 0, .int .u8 0, .int .u8 0]
theorem tyZ23 : TyZ Try.prog 23 (.agg z23.toArray) := fun _ => by kernel_rfl
theorem tyC24 : TyC Try.prog 24 := ⟨fun _ => by kernel_rfl, fun _ => by kernel_rfl⟩
abbrev z24 : Value := .int .i64 0
theorem tyZ24 : TyZ Try.prog 24 z24 := fun _ => by kernel_rfl
theorem tyC26 : TyC Try.prog 26 := ⟨fun _ => by kernel_rfl, fun _ => by kernel_rfl⟩
abbrev z26 : Value := .nilFunc
theorem tyZ26 : TyZ Try.prog 26 z26 := fun _ => by kernel_rfl
theorem tyC28 : TyC Try.prog 28 := ⟨fun _ => by kernel_rfl, fun _ => by kernel_rfl⟩
abbrev z28 : Value := .nilFunc
theorem tyZ28 : TyZ Try.prog 28 z28 := fun _ => by kernel_rfl
theorem tyC29 : TyC Try.prog 29 := ⟨fun _ => by kernel_rfl, fun _ => by kernel_rfl⟩
abbrev z29 : Value := .nilFunc
theorem tyZ29 : TyZ Try.prog 29 z29 := fun _ => by kernel_rfl
theorem tyC30 : TyC Try.prog 30 := ⟨fun _ => by kernel_rfl, fun _ => by kernel_rfl⟩
abbrev z30 : Value := .nilFunc
theorem tyZ30 : TyZ Try.prog 30 z30 := fun _ => by kernel_rfl
theorem tyC31 : TyC Try.prog 31 := ⟨fun _ => by kernel_rfl, fun _ => by kernel_rfl⟩
abbrev z31 : Value := .int .u64 0
theorem tyZ31 : TyZ Try.prog 31 z31 := fun _ => by kernel_rfl
theorem tyC32 : TyC Try.prog 32 := ⟨fun _ => by kernel_rfl, fun _ => by kernel_rfl⟩
abbrev z32 : Value := .nilFunc
theorem tyZ32 : TyZ Try.prog 32 z32 := fun _ => by kernel_rfl
theorem tyC33 : TyC Try.prog 33 := ⟨fun _ => by kernel_rfl, fun _ => by kernel_rfl⟩
abbrev z33 : Value := .nilFunc
theorem tyZ33 : TyZ Try.prog 33 z33 := fun _ => by kernel_rfl
theorem tyC34 : TyC Try.prog 34 := ⟨fun _ => by kernel_rfl, fun _ => by kernel_rfl⟩
abbrev z34 : Value := .nilFunc
theorem tyZ34 : TyZ Try.prog 34 z34 := fun _ => by kernel_rfl
theorem tyC35 : TyC Try.prog 35 := ⟨fun _ => by kernel_rfl, fun _ => by kernel_rfl⟩
abbrev z35 : Value := .nilFunc
theorem tyZ35 : TyZ Try.prog 35 z35 := fun _ => by kernel_rfl
theorem tyC36 : TyC Try.prog 36 := ⟨fun _ => by kernel_rfl, fun _ => by kernel_rfl⟩
abbrev z36 : Value := .nilFunc
theorem tyZ36 : TyZ Try.prog 36 z36 := fun _ => by kernel_rfl
theorem tyC37 : TyC Try.prog 37 := ⟨fun _ => by kernel_rfl, fun _ => by kernel_rfl⟩
abbrev z37 : Value := .slice none 0 0
theorem tyZ37 : TyZ Try.prog 37 z37 := fun _ => by kernel_rfl
theorem tyC39 : TyC Try.prog 39 := ⟨fun _ => by kernel_rfl, fun _ => by kernel_rfl⟩
abbrev z39 : Value := .nilFunc
theorem tyZ39 : TyZ Try.prog 39 z39 := fun _ => by kernel_rfl
theorem tyC41 : TyC Try.prog 41 := ⟨fun _ => by kernel_rfl, fun _ => by kernel_rfl⟩
abbrev z41 : Value := .nilFunc
theorem tyZ41 : TyZ Try.prog 41 z41 := fun _ => by kernel_rfl
theorem tyC42 : TyC Try.prog 42 := ⟨fun _ => by kernel_rfl, fun _ => by kernel_rfl⟩
abbrev z42 : Value := .nilFunc
theorem tyZ42 : TyZ Try.prog 42 z42 := fun _ => by kernel_rfl
theorem tyC43 : TyC Try.prog 43 := ⟨fun _ => by kernel_rfl, fun _ => by kernel_rfl⟩
abbrev z43 : Value := .nilFunc
theorem tyZ43 : TyZ Try.prog 43 z43 := fun _ => by kernel_rfl
theorem tyC44 : TyC Try.prog 44 := ⟨fun _ => by kernel_rfl, fun _ => by kernel_rfl⟩
abbrev z44 : Value := .nilFunc
theorem tyZ44 : TyZ Try.prog 44 z44 := fun _ => by kernel_rfl
theorem tyC45 : TyC Try.prog 45 := ⟨fun _ => by kernel_rfl, fun _ => by kernel_rfl⟩
abbrev z45 : Value := .nilFunc
theorem tyZ45 : TyZ Try.prog 45 z45 := fun _ => by kernel_rfl
theorem tyC46 : TyC Try.prog 46 := ⟨fun _ => by kernel_rfl, fun _ => by kernel_rfl⟩
abbrev z46 : Value := .nilFunc
theorem tyZ46 : TyZ Try.prog 46 z46 := fun _ => by kernel_rfl
theorem tyC47 : TyC Try.prog 47 := ⟨fun _ => by kernel_rfl, fun _ => by kernel_rfl⟩
abbrev z47 : Value := .nilFunc
theorem tyZ47 : TyZ Try.prog 47 z47 := fun _ => by kernel_rfl
theorem tyC48 : TyC Try.prog 48 := ⟨fun _ => by kernel_rfl, fun _ => by kernel_rfl⟩
abbrev z48 : Value := .nilFunc
theorem tyZ48 : TyZ Try.prog 48 z48 := fun _ => by kernel_rfl
theorem tyC49 : TyC Try.prog 49 := ⟨fun _ => by kernel_rfl, fun _ => by kernel_rfl⟩
abbrev z49 : Value := .nilFunc
theorem tyZ49 : TyZ Try.prog 49 z49 := fun _ => by kernel_rfl
theorem tyC50 : TyC Try.prog 50 := ⟨fun _ => by kernel_rfl, fun _ => by kernel_rfl⟩
abbrev z50 : Value := .nilFunc
theorem tyZ50 : TyZ Try.prog 50 z50 := fun _ => by kernel_rfl
theorem tyC51 : TyC Try.prog 51 := ⟨fun _ => by kernel_rfl, fun _ => by kernel_rfl⟩
abbrev z51 : Value := .nilFunc
theorem tyZ51 : TyZ Try.prog 51 z51 := fun _ => by kernel_rfl
theorem tyC52 : TyC Try.prog 52 := ⟨fun _ => by kernel_rfl, fun _ => by kernel_rfl⟩
abbrev z52 : Value := .slice none 0 0
theorem tyZ52 : TyZ Try.prog 52 z52 := fun _ => by kernel_rfl
theorem tyC53 : TyC Try.prog 53 := ⟨fun _ => by kernel_rfl, fun _ => by kernel_rfl⟩
abbrev z53 : Value := .nilFunc
theorem tyZ53 : TyZ Try.prog 53 z53 := fun _ => by kernel_rfl
theorem tyC54 : TyC Try.prog 54 := ⟨fun _ => by kernel_rfl, fun _ => by kernel_rfl⟩
abbrev z54 : Value := .nilFunc
theorem tyZ54 : TyZ Try.prog 54 z54 := fun _ => by kernel_rfl
theorem tyC55 : TyC Try.prog 55 := ⟨fun _ => by kernel_rfl, fun _ => by kernel_rfl⟩
abbrev z55 : Value := .int .u64 0
theorem tyZ55 : TyZ Try.prog 55 z55 := fun _ => by kernel_rfl
theorem tyC56 : TyC Try.prog 56 := ⟨fun _ => by kernel_rfl, fun _ => by kernel_rfl⟩
abbrev z56 : Value := .nilFunc
theorem tyZ56 : TyZ Try.prog 56 z56 := fun _ => by kernel_rfl
theorem tyC57 : TyC Try.prog 57 := ⟨fun _ => by kernel_rfl, fun _ => by kernel_rfl⟩
abbrev z57 : Value := .nilFunc
theorem tyZ57 : TyZ Try.prog 57 z57 := fun _ => by kernel_rfl
theorem tyC58 : TyC Try.prog 58 := ⟨fun _ => by kernel_rfl, fun _ => by kernel_rfl⟩
abbrev z58 : Value := .nilFunc
theorem tyZ58 : TyZ Try.prog 58 z58 := fun _ => by kernel_rfl
theorem tyC60 : TyC Try.prog 60 := ⟨fun _ => by kernel_rfl, fun _ => by kernel_rfl⟩
abbrev z60 : Value := .nilFunc
theorem tyZ60 : TyZ Try.prog 60 z60 := fun _ => by kernel_rfl
theorem tyC61 : TyC Try.prog 61 := ⟨fun _ => by kernel_rfl, fun _ => by kernel_rfl⟩
abbrev z61 : Value := .nilFunc
theorem tyZ61 : TyZ Try.prog 61 z61 := fun _ => by kernel_rfl
theorem tyC62 : TyC Try.prog 62 := ⟨fun _ => by kernel_rfl, fun _ => by kernel_rfl⟩
abbrev z62 : Value := .nilFunc
theorem tyZ62 : TyZ Try.prog 62 z62 := fun _ => by kernel_rfl
theorem tyC63 : TyC Try.prog 63 := ⟨fun _ => by kernel_rfl, fun _ => by kernel_rfl⟩
abbrev z63 : Value := .nilFunc
theorem tyZ63 : TyZ Try.prog 63 z63 := fun _ => by kernel_rfl
theorem tyA64 : TyA Try.prog 64 2 := ⟨fun _ => by kernel_rfl, fun _ => by kernel_rfl⟩
abbrev z64 : List Value := [.int .u64 0, .int .u64 0]
theorem tyZ64 : TyZ Try.prog 64 (.agg z64.toArray) := fun _ => by kernel_rfl
theorem tyA65 : TyA Try.prog 65 2 := ⟨fun _ => by kernel_rfl, fun _ => by kernel_rfl⟩
abbrev z65 : List Value := [.int .u64 0, .int .u64 0]
theorem tyZ65 : TyZ Try.prog 65 (.agg z65.toArray) := fun _ => by kernel_rfl
theorem tyC66 : TyC Try.prog 66 := ⟨fun _ => by kernel_rfl, fun _ => by kernel_rfl⟩
abbrev z66 : Value := .nilFunc
theorem tyZ66 : TyZ Try.prog 66 z66 := fun _ => by kernel_rfl
theorem tyC67 : TyC Try.prog 67 := ⟨fun _ => by kernel_rfl, fun _ => by kernel_rfl⟩
abbrev z67 : Value := .nilFunc
theorem tyZ67 : TyZ Try.prog 67 z67 := fun _ => by kernel_rfl
theorem tyC68 : TyC Try.prog 68 := ⟨fun _ => by kernel_rfl, fun _ => by kernel_rfl⟩
abbrev z68 : Value := .nilFunc
theorem tyZ68 : TyZ Try.prog 68 z68 := fun _ => by kernel_rfl
theorem tyC69 : TyC Try.prog 69 := ⟨fun _ => by kernel_rfl, fun _ => by kernel_rfl⟩
abbrev z69 : Value := .nilFunc
theorem tyZ69 : TyZ Try.prog 69 z69 := fun _ => by kernel_rfl
theorem tyC70 : TyC Try.prog 70 := ⟨fun _ => by kernel_rfl, fun _ => by kernel_rfl⟩
abbrev z70 : Value := .nilFunc
theorem tyZ70 : TyZ Try.prog 70 z70 := fun _ => by kernel_rfl
theorem tyC71 : TyC Try.prog 71 := ⟨fun _ => by kernel_rfl, fun _ => by kernel_rfl⟩
abbrev z71 : Value := .nilFunc
theorem tyZ71 : TyZ Try.prog 71 z71 := fun _ => by kernel_rfl
theorem tyC72 : TyC Try.prog 72 := ⟨fun _ => by kernel_rfl, fun _ => by kernel_rfl⟩
abbrev z72 : Value := .nilFunc
theorem tyZ72 : TyZ Try.prog 72 z72 := fun _ => by kernel_rfl
theorem tyC74 : TyC Try.prog 74 := ⟨fun _ => by kernel_rfl, fun _ => by kernel_rfl⟩
abbrev z74 : Value := .nilFunc
theorem tyZ74 : TyZ Try.prog 74 z74 := fun _ => by kernel_rfl
theorem tyC75 : TyC Try.prog 75 := ⟨fun _ => by kernel_rfl, fun _ => by kernel_rfl⟩
abbrev z75 : Value := .slice none 0 0
theorem tyZ75 : TyZ Try.prog 75 z75 := fun _ => by kernel_rfl
theorem tyC76 : TyC Try.prog 76 := ⟨fun _ => by kernel_rfl, fun _ => by kernel_rfl⟩
abbrev z76 : Value := .nilFunc
theorem tyZ76 : TyZ Try.prog 76 z76 := fun _ => by kernel_rfl
theorem tyC77 : TyC Try.prog 77 := ⟨fun _ => by kernel_rfl, fun _ => by kernel_rfl⟩
abbrev z77 : Value := .nilFunc
theorem tyZ77 : TyZ Try.prog 77 z77 := fun _ => by kernel_rfl
theorem tyC78 : TyC Try.prog 78 := ⟨fun _ => by kernel_rfl, fun _ => by kernel_rfl⟩
abbrev z78 : Value := .nilFunc
theorem tyZ78 : TyZ Try.prog 78 z78 := fun _ => by kernel_rfl
theorem tyA79 : TyA Try.prog 79 32 := ⟨fun _ => by kernel_rfl, fun _ => by kernel_rfl⟩
abbrev z79 : List Value := [.int .u64 0, .int .u64 0, .int .u64 0, .int .u64 0, .int .u64 0, .int .u64 0, .int .u64 0, .int .u64 0, .int .u64 0, .int .u64 0, .int .u64 0, .int .u64 0, .int .u64 0, .int .u64 0, .int .u64 0, .int .u64 0, .int .u64 0, .int .u64 0, .int .u64 0, .int .u64 0, .int .u64 0, .int .u64 0, .int .u64 0, .int .u64 0, .int .u64 0, .int .u64 0, .int .u64 0, .int .u64 0, .int .u64 0, .int .u64 0, .int .u64 0, .int .u64 0]
theorem tyZ79 : TyZ Try.prog 79 (.agg z79.toArray) := fun _ => by kernel_rfl
theorem tyC80 : TyC Try.prog 80 := ⟨fun _ => by kernel_rfl, fun _ => by kernel_rfl⟩
abbrev z80 : Value := .nilFunc
theorem tyZ80 : TyZ Try.prog 80 z80 := fun _ => by kernel_rfl
theorem tyC81 : TyC Try.prog 81 := ⟨fun _ => by kernel_rfl, fun _ => by kernel_rfl⟩
abbrev z81 : Value := .nilFunc
theorem tyZ81 : TyZ Try.prog 81 z81 := fun _ => by kernel_rfl
theorem tyC82 : TyC Try.prog 82 := ⟨fun _ => by kernel_rfl, fun _ => by kernel_rfl⟩
abbrev z82 : Value := .nilFunc
theorem tyZ82 : TyZ Try.prog 82 z82 := fun _ => by kernel_rfl
theorem tyC83 : TyC Try.prog 83 := ⟨fun _ => by kernel_rfl, fun _ => by kernel_rfl⟩
abbrev z83 : Value := .nilFunc
theorem tyZ83 : TyZ Try.prog 83 z83 := fun _ => by kernel_rfl
theorem tyC84 : TyC Try.prog 84 := ⟨fun _ => by kernel_rfl, fun _ => by kernel_rfl⟩
abbrev z84 : Value := .nilFunc
theorem tyZ84 : TyZ Try.prog 84 z84 := fun _ => by kernel_rfl
theorem tyC85 : TyC Try.prog 85 := ⟨fun _ => by kernel_rfl, fun _ => by kernel_rfl⟩
abbrev z85 : Value := .nilFunc
theorem tyZ85 : TyZ Try.prog 85 z85 := fun _ => by kernel_rfl
theorem tyC86 : TyC Try.prog 86 := ⟨fun _ => by kernel_rfl, fun _ => by kernel_rfl⟩
abbrev z86 : Value := .nilFunc
theorem tyZ86 : TyZ Try.prog 86 z86 := fun _ => by kernel_rfl
theorem tyC87 : TyC Try.prog 87 := ⟨fun _ => by kernel_rfl, fun _ => by kernel_rfl⟩
abbrev z87 : Value := .nilFunc
theorem tyZ87 : TyZ Try.prog 87 z87 := fun _ => by kernel_rfl
theorem tyC88 : TyC Try.prog 88 := ⟨fun _ => by kernel_rfl, fun _ => by kernel_rfl⟩
abbrev z88 : Value := .nilFunc
theorem tyZ88 : TyZ Try.prog 88 z88 := fun _ => by kernel_rfl
theorem tyA89 : TyA Try.prog 89 4 := ⟨fun _ => by kernel_rfl, fun _ => by kernel_rfl⟩
theorem tyA90 : TyA Try.prog 90 4 := ⟨fun _ => by kernel_rfl, fun _ => by kernel_rfl⟩
theorem tyC94 : TyC Try.prog 94 := ⟨fun _ => by kernel_rfl, fun _ => by kernel_rfl⟩
abbrev z94 : Value := .nilFunc
theorem tyZ94 : TyZ Try.prog 94 z94 := fun _ => by kernel_rfl
theorem tyC95 : TyC Try.prog 95 := ⟨fun _ => by kernel_rfl, fun _ => by kernel_rfl⟩
abbrev z95 : Value := .int .u32 0
theorem tyZ95 : TyZ Try.prog 95 z95 := fun _ => by kernel_rfl
theorem tyC96 : TyC Try.prog 96 := ⟨fun _ => by kernel_rfl, fun _ => by kernel_rfl⟩
abbrev z96 : Value := .int .u8 0
theorem tyZ96 : TyZ Try.prog 96 z96 := fun _ => by kernel_rfl
theorem tyC97 : TyC Try.prog 97 := ⟨fun _ => by kernel_rfl, fun _ => by kernel_rfl⟩
abbrev z97 : Value := .int .u8 0
theorem tyZ97 : TyZ Try.prog 97 z97 := fun _ => by kernel_rfl
theorem tyC98 : TyC Try.prog 98 := ⟨fun _ => by kernel_rfl, fun _ => by kernel_rfl⟩
abbrev z98 : Value := .nilFunc
theorem tyZ98 : TyZ Try.prog 98 z98 := fun _ => by kernel_rfl
theorem tyC99 : TyC Try.prog 99 := ⟨fun _ => by kernel_rfl, fun _ => by kernel_rfl⟩
theorem tyC100 : TyC Try.prog 100 := ⟨fun _ => by kernel_rfl, fun _ => by kernel_rfl⟩
abbrev z100 : Value := .int .i32 0
theorem tyZ100 : TyZ Try.prog 100 z100 := fun _ => by kernel_rfl
theorem tyC101 : TyC Try.prog 101 := ⟨fun _ => by kernel_rfl, fun _ => by kernel_rfl⟩
abbrev z101 : Value := .int .i32 0
theorem tyZ101 : TyZ Try.prog 101 z101 := fun _ => by kernel_rfl
theorem tyA102 : TyA Try.prog 102 11 := ⟨fun _ => by kernel_rfl, fun _ => by kernel_rfl⟩
theorem tyA103 : TyA Try.prog 103 11 := ⟨fun _ => by kernel_rfl, fun _ => by kernel_rfl⟩
theorem en3 : Enters Try.prog 3 := enters_of Try.func3 (by kernel_rfl) rfl
theorem en4 : Enters Try.prog 4 := enters_of Try.func4 (by kernel_rfl) rfl
theorem en5 : Enters Try.prog 5 := enters_of Try.func5 (by kernel_rfl) rfl
theorem en6 : Enters Try.prog 6 := enters_of Try.func6 (by kernel_rfl) rfl
theorem en7 : Enters Try.prog 7 := enters_of Try.func7 (by kernel_rfl) rfl
theorem en8 : Enters Try.prog 8 := enters_of Try.func8 (by kernel_rfl) rfl
theorem en9 : Enters Try.prog 9 := enters_of Try.func9 (by kernel_rfl) rfl
theorem en10 : Enters Try.prog 10 := enters_of Try.func10 (by kernel_rfl) rfl
theorem en11 : Enters Try.prog 11 := enters_of Try.func11 (by kernel_rfl) rfl
theorem en12 : Enters Try.prog 12 := enters_of Try.func12 (by kernel_rfl) rfl
theorem en13 : Enters Try.prog 13 := enters_of Try.func13 (by kernel_rfl) rfl
theorem en14 : Enters Try.prog 14 := enters_of Try.func14 (by kernel_rfl) rfl
theorem en15 : Enters Try.prog 15 := enters_of Try.func15 (by kernel_rfl) rfl
theorem en16 : Enters Try.prog 16 := enters_of Try.func16 (by kernel_rfl) rfl
theorem en17 : Enters Try.prog 17 := enters_of Try.func17 (by kernel_rfl) rfl
theorem en18 : Enters Try.prog 18 := enters_of Try.func18 (by kernel_rfl) rfl
theorem en19 : Enters Try.prog 19 := enters_of Try.func19 (by kernel_rfl) rfl
theorem en20 : Enters Try.prog 20 := enters_of Try.func20 (by kernel_rfl) rfl
theorem en21 : Enters Try.prog 21 := enters_of Try.func21 (by kernel_rfl) rfl
theorem en22 : Enters Try.prog 22 := enters_of Try.func22 (by kernel_rfl) rfl
theorem en23 : Enters Try.prog 23 := enters_of Try.func23 (by kernel_rfl) rfl
theorem en24 : Enters Try.prog 24 := enters_of Try.func24 (by kernel_rfl) rfl
theorem en25 : Enters Try.prog 25 := enters_of Try.func25 (by kernel_rfl) rfl
theorem en26 : Enters Try.prog 26 := enters_of Try.func26 (by kernel_rfl) rfl
theorem en27 : Enters Try.prog 27 := enters_of Try.func27 (by kernel_rfl) rfl
theorem en28 : Enters Try.prog 28 := enters_of Try.func28 (by kernel_rfl) rfl
theorem en29 : Enters Try.prog 29 := enters_of Try.func29 (by kernel_rfl) rfl
theorem en30 : Enters Try.prog 30 := enters_of Try.func30 (by kernel_rfl) rfl
theorem en31 : Enters Try.prog 31 := enters_of Try.func31 (by kernel_rfl) rfl
theorem en32 : Enters Try.prog 32 := enters_of Try.func32 (by kernel_rfl) rfl
theorem en33 : Enters Try.prog 33 := enters_of Try.func33 (by kernel_rfl) rfl
theorem en34 : Enters Try.prog 34 := enters_of Try.func34 (by kernel_rfl) rfl
theorem en35 : Enters Try.prog 35 := enters_of Try.func35 (by kernel_rfl) rfl
theorem en36 : Enters Try.prog 36 := enters_of Try.func36 (by kernel_rfl) rfl
theorem en37 : Enters Try.prog 37 := enters_of Try.func37 (by kernel_rfl) rfl
theorem en38 : Enters Try.prog 38 := enters_of Try.func38 (by kernel_rfl) rfl
theorem en39 : Enters Try.prog 39 := enters_of Try.func39 (by kernel_rfl) rfl
theorem en40 : Enters Try.prog 40 := enters_of Try.func40 (by kernel_rfl) rfl
theorem en41 : Enters Try.prog 41 := enters_of Try.func41 (by kernel_rfl) rfl
theorem en42 : Enters Try.prog 42 := enters_of Try.func42 (by kernel_rfl) rfl
theorem en43 : Enters Try.prog 43 := enters_of Try.func43 (by kernel_rfl) rfl
theorem en44 : Enters Try.prog 44 := enters_of Try.func44 (by kernel_rfl) rfl
theorem en45 : Enters Try.prog 45 := enters_of Try.func45 (by kernel_rfl) rfl
theorem en46 : Enters Try.prog 46 := enters_of Try.func46 (by kernel_rfl) rfl
theorem en47 : Enters Try.prog 47 := enters_of Try.func47 (by kernel_rfl) rfl
theorem en48 : Enters Try.prog 48 := enters_of Try.func48 (by kernel_rfl) rfl
theorem en49 : Enters Try.prog 49 := enters_of Try.func49 (by kernel_rfl) rfl
theorem en50 : Enters Try.prog 50 := enters_of Try.func50 (by kernel_rfl) rfl
theorem en51 : Enters Try.prog 51 := enters_of Try.func51 (by kernel_rfl) rfl
theorem en52 : Enters Try.prog 52 := enters_of Try.func52 (by kernel_rfl) rfl
theorem en53 : Enters Try.prog 53 := enters_of Try.func53 (by kernel_rfl) rfl
theorem en54 : Enters Try.prog 54 := enters_of Try.func54 (by kernel_rfl) rfl
theorem en55 : Enters Try.prog 55 := enters_of Try.func55 (by kernel_rfl) rfl
theorem en56 : Enters Try.prog 56 := enters_of Try.func56 (by kernel_rfl) rfl
theorem en57 : Enters Try.prog 57 := enters_of Try.func57 (by kernel_rfl) rfl
theorem en58 : Enters Try.prog 58 := enters_of Try.func58 (by kernel_rfl) rfl
theorem en59 : Enters Try.prog 59 := enters_of Try.func59 (by kernel_rfl) rfl
theorem en60 : Enters Try.prog 60 := enters_of Try.func60 (by kernel_rfl) rfl
theorem en61 : Enters Try.prog 61 := enters_of Try.func61 (by kernel_rfl) rfl
theorem en62 : Enters Try.prog 62 := enters_of Try.func62 (by kernel_rfl) rfl
theorem en63 : Enters Try.prog 63 := enters_of Try.func63 (by kernel_rfl) rfl
theorem en64 : Enters Try.prog 64 := enters_of Try.func64 (by kernel_rfl) rfl
theorem en65 : Enters Try.prog 65 := enters_of Try.func65 (by kernel_rfl) rfl
theorem en66 : Enters Try.prog 66 := enters_of Try.func66 (by kernel_rfl) rfl
theorem en67 : Enters Try.prog 67 := enters_of Try.func67 (by kernel_rfl) rfl
theorem en68 : Enters Try.prog 68 := enters_of Try.func68 (by kernel_rfl) rfl
theorem en69 : Enters Try.prog 69 := enters_of Try.func69 (by kernel_rfl) rfl
theorem en70 : Enters Try.prog 70 := enters_of Try.func70 (by kernel_rfl) rfl
theorem tyK22 : TyK Try.prog 22 5 := ⟨by kernel_rfl, by kernel_rfl, ⟨(Try.prog.info? 5).get (by kernel_rfl), by kernel_rfl⟩, by kernel_rfl, fun _ => by kernel_rfl, by kernel_rfl⟩
theorem tyK23 : TyK Try.prog 23 5 := ⟨by kernel_rfl, by kernel_rfl, ⟨(Try.prog.info? 5).get (by kernel_rfl), by kernel_rfl⟩, by kernel_rfl, fun _ => by kernel_rfl, by kernel_rfl⟩
theorem tyZE37 : ∀ i, Try.prog.info? 5 = some i → i.zero = some (z5) := fun i hi => by
  have h : (Try.prog.info? 5).map (·.zero) = some (some (z5)) := by kernel_rfl
  rw [hi] at h
  simpa using h
theorem tyE37 : TyE Try.prog 37 5 1 1 := ⟨by kernel_rfl, ⟨(Try.prog.info? 5).get (by kernel_rfl), z5, by kernel_rfl, by kernel_rfl, by kernel_rfl, by kernel_rfl, by kernel_rfl⟩, by decide⟩
theorem tyZE52 : ∀ i, Try.prog.info? 23 = some i → i.zero = some (.agg z23.toArray) := fun i hi => by
  have h : (Try.prog.info? 23).map (·.zero) = some (some (.agg z23.toArray)) := by kernel_rfl
  rw [hi] at h
  simpa using h
theorem tyE52 : TyE Try.prog 52 23 16 16 := ⟨by kernel_rfl, ⟨(Try.prog.info? 23).get (by kernel_rfl), .agg z23.toArray, by kernel_rfl, by kernel_rfl, by kernel_rfl, by kernel_rfl, by kernel_rfl⟩, by decide⟩
theorem tyZE75 : ∀ i, Try.prog.info? 31 = some i → i.zero = some (z31) := fun i hi => by
  have h : (Try.prog.info? 31).map (·.zero) = some (some (z31)) := by kernel_rfl
  rw [hi] at h
  simpa using h
theorem tyE75 : TyE Try.prog 75 31 1 8 := ⟨by kernel_rfl, ⟨(Try.prog.info? 31).get (by kernel_rfl), z31, by kernel_rfl, by kernel_rfl, by kernel_rfl, by kernel_rfl, by kernel_rfl⟩, by decide⟩
theorem bld23_ : ∀ w, (Instr.build 23 [].toArray).run Try.prog w = .ok (.agg z23.toArray) w := fun _ => by kernel_rfl
theorem bld65_0_1 (x0 : Int) (x1 : Int) : ∀ w, (Instr.build 65 [(0, .int .u64 x0), (1, .int .u64 x1)].toArray).run Try.prog w = .ok (.agg [.int .u64 x0, .int .u64 x1].toArray) w := fun _ => by kernel_rfl
theorem bsl37_0_  : ∀ w, (Instr.buildSlice 37 0 [].toArray).run Try.prog w = .ok (.slice (some ⟨w.heap.size, 0, none⟩) 0 0) (w.alloc (.cells [].toArray 5)) := fun _ => by kernel_rfl
theorem bsl37_1_0 (x0 : Int) : ∀ w, (Instr.buildSlice 37 1 [(0, .int .u8 x0)].toArray).run Try.prog w = .ok (.slice (some ⟨w.heap.size, 0, none⟩) 1 1) (w.alloc (.cells [.int .u8 x0].toArray 5)) := fun _ => by kernel_rfl
theorem bsl37_8_0_1_2_3_4_5_6_7 (x0 : Int) (x1 : Int) (x2 : Int) (x3 : Int) (x4 : Int) (x5 : Int) (x6 : Int) (x7 : Int) : ∀ w, (Instr.buildSlice 37 8 [(0, .int .u8 x0), (1, .int .u8 x1), (2, .int .u8 x2), (3, .int .u8 x3), (4, .int .u8 x4), (5, .int .u8 x5), (6, .int .u8 x6), (7, .int .u8 x7)].toArray).run Try.prog w = .ok (.slice (some ⟨w.heap.size, 0, none⟩) 8 8) (w.alloc (.cells [.int .u8 x0, .int .u8 x1, .int .u8 x2, .int .u8 x3, .int .u8 x4, .int .u8 x5, .int .u8 x6, .int .u8 x7].toArray 5)) := fun _ => by kernel_rfl
theorem bsl37_2_0_1 (x0 : Int) (x1 : Int) : ∀ w, (Instr.buildSlice 37 2 [(0, .int .u8 x0), (1, .int .u8 x1)].toArray).run Try.prog w = .ok (.slice (some ⟨w.heap.size, 0, none⟩) 2 2) (w.alloc (.cells [.int .u8 x0, .int .u8 x1].toArray 5)) := fun _ => by kernel_rfl
theorem bsl75_1_0 (x0 : Int) : ∀ w, (Instr.buildSlice 75 1 [(0, .int .u64 x0)].toArray).run Try.prog w = .ok (.slice (some ⟨w.heap.size, 0, none⟩) 1 1) (w.alloc (.cells [.int .u64 x0].toArray 31)) := fun _ => by kernel_rfl
end Go.Proofs.Ytlabfinhdidmaaa
