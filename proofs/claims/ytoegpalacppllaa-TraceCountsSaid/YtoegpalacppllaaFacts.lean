/- Closed facts on types and functions of the program, written by a program. -/
import Derived.Test.YtoegpalacppllaaRange
import Derived.Test.YtoegpalacppllaaEq
import Derived.Test.YtoegpalacppllaaStr
import Derived.Test.YtoegpalacppllaaProg
namespace Go.Proofs.Ytoegpalacppllaa
open Pl
theorem tyC1 : TyC Try.prog 1 := ⟨fun _ => by kernel_rfl, fun _ => by kernel_rfl⟩
abbrev z1 : Value := .nilFunc
theorem tyZ1 : TyZ Try.prog 1 z1 := fun _ => by kernel_rfl
theorem tyC2 : TyC Try.prog 2 := ⟨fun _ => by kernel_rfl, fun _ => by kernel_rfl⟩
abbrev z2 : Value := .int .i64 0
theorem tyZ2 : TyZ Try.prog 2 z2 := fun _ => by kernel_rfl
theorem tyC3 : TyC Try.prog 3 := ⟨fun _ => by kernel_rfl, fun _ => by kernel_rfl⟩
abbrev z3 : Value := .int .i64 0
theorem tyZ3 : TyZ Try.prog 3 z3 := fun _ => by kernel_rfl
theorem tyC4 : TyC Try.prog 4 := ⟨fun _ => by kernel_rfl, fun _ => by kernel_rfl⟩
abbrev z4 : Value := .bool false
theorem tyZ4 : TyZ Try.prog 4 z4 := fun _ => by kernel_rfl
theorem tyC5 : TyC Try.prog 5 := ⟨fun _ => by kernel_rfl, fun _ => by kernel_rfl⟩
abbrev z5 : Value := .int .u8 0
theorem tyZ5 : TyZ Try.prog 5 z5 := fun _ => by kernel_rfl
theorem tyC6 : TyC Try.prog 6 := ⟨fun _ => by kernel_rfl, fun _ => by kernel_rfl⟩
abbrev z6 : Value := .int .u8 0
theorem tyZ6 : TyZ Try.prog 6 z6 := fun _ => by kernel_rfl
theorem tyA7 : TyA Try.prog 7 4 := ⟨fun _ => by kernel_rfl, fun _ => by kernel_rfl⟩
abbrev z7 : List Value := [.int .i64 0, .int .i64 0, .bool false, .int .u8 0]
theorem tyZ7 : TyZ Try.prog 7 (.agg z7.toArray) := fun _ => by kernel_rfl
theorem tyA8 : TyA Try.prog 8 4 := ⟨fun _ => by kernel_rfl, fun _ => by kernel_rfl⟩
abbrev z8 : List Value := [.int .i64 0, .int .i64 0, .bool false, .int .u8 0]
theorem tyZ8 : TyZ Try.prog 8 (.agg z8.toArray) := fun _ => by kernel_rfl
theorem tyC9 : TyC Try.prog 9 := ⟨fun _ => by kernel_rfl, fun _ => by kernel_rfl⟩
theorem tyC10 : TyC Try.prog 10 := ⟨fun _ => by kernel_rfl, fun _ => by kernel_rfl⟩
theorem tyC11 : TyC Try.prog 11 := ⟨fun _ => by kernel_rfl, fun _ => by kernel_rfl⟩
theorem tyC12 : TyC Try.prog 12 := ⟨fun _ => by kernel_rfl, fun _ => by kernel_rfl⟩
abbrev z12 : Value := .int .u64 0
theorem tyZ12 : TyZ Try.prog 12 z12 := fun _ => by kernel_rfl
theorem tyA13 : TyA Try.prog 13 2 := ⟨fun _ => by kernel_rfl, fun _ => by kernel_rfl⟩
theorem tyA14 : TyA Try.prog 14 2 := ⟨fun _ => by kernel_rfl, fun _ => by kernel_rfl⟩
theorem tyC15 : TyC Try.prog 15 := ⟨fun _ => by kernel_rfl, fun _ => by kernel_rfl⟩
theorem tyC16 : TyC Try.prog 16 := ⟨fun _ => by kernel_rfl, fun _ => by kernel_rfl⟩
theorem tyC17 : TyC Try.prog 17 := ⟨fun _ => by kernel_rfl, fun _ => by kernel_rfl⟩
theorem tyA18 : TyA Try.prog 18 1 := ⟨fun _ => by kernel_rfl, fun _ => by kernel_rfl⟩
theorem tyA19 : TyA Try.prog 19 1 := ⟨fun _ => by kernel_rfl, fun _ => by kernel_rfl⟩
theorem tyC21 : TyC Try.prog 21 := ⟨fun _ => by kernel_rfl, fun _ => by kernel_rfl⟩
abbrev z21 : Value := .int .i32 0
theorem tyZ21 : TyZ Try.prog 21 z21 := fun _ => by kernel_rfl
theorem tyC22 : TyC Try.prog 22 := ⟨fun _ => by kernel_rfl, fun _ => by kernel_rfl⟩
abbrev z22 : Value := .int .u64 0
theorem tyZ22 : TyZ Try.prog 22 z22 := fun _ => by kernel_rfl
theorem tyA23 : TyA Try.prog 23 3 := ⟨fun _ => by kernel_rfl, fun _ => by kernel_rfl⟩
abbrev z23 : List Value := [.int .u64 0, .int .u64 0, .int .u64 0]
theorem tyZ23 : TyZ Try.prog 23 (.agg z23.toArray) := fun _ => by kernel_rfl
theorem tyA24 : TyA Try.prog 24 3 := ⟨fun _ => by kernel_rfl, fun _ => by kernel_rfl⟩
abbrev z24 : List Value := [.int .u64 0, .int .u64 0, .int .u64 0]
theorem tyZ24 : TyZ Try.prog 24 (.agg z24.toArray) := fun _ => by kernel_rfl
theorem tyA25 : TyA Try.prog 25 6 := ⟨fun _ => by kernel_rfl, fun _ => by kernel_rfl⟩
abbrev z25 : List Value := [.int .u8 0, .int .i64 0, .int .i64 0, .int .u64 0, .int .u64 0, .int .u64 0]
theorem tyZ25 : TyZ Try.prog 25 (.agg z25.toArray) := fun _ => by kernel_rfl
theorem tyA26 : TyA Try.prog 26 6 := ⟨fun _ => by kernel_rfl, fun _ => by kernel_rfl⟩
abbrev z26 : List Value := [.int .u8 0, .int .i64 0, .int .i64 0, .int .u64 0, .int .u64 0, .int .u64 0]
theorem tyZ26 : TyZ Try.prog 26 (.agg z26.toArray) := fun _ => by kernel_rfl
theorem tyC27 : TyC Try.prog 27 := ⟨fun _ => by kernel_rfl, fun _ => by kernel_rfl⟩
abbrev z27 : Value := .int .i64 0
theorem tyZ27 : TyZ Try.prog 27 z27 := fun _ => by kernel_rfl
theorem tyC29 : TyC Try.prog 29 := ⟨fun _ => by kernel_rfl, fun _ => by kernel_rfl⟩
abbrev z29 : Value := .nilFunc
theorem tyZ29 : TyZ Try.prog 29 z29 := fun _ => by kernel_rfl
theorem tyC31 : TyC Try.prog 31 := ⟨fun _ => by kernel_rfl, fun _ => by kernel_rfl⟩
abbrev z31 : Value := .nilFunc
theorem tyZ31 : TyZ Try.prog 31 z31 := fun _ => by kernel_rfl
theorem tyC32 : TyC Try.prog 32 := ⟨fun _ => by kernel_rfl, fun _ => by kernel_rfl⟩
abbrev z32 : Value := .nilFunc
theorem tyZ32 : TyZ Try.prog 32 z32 := fun _ => by kernel_rfl
theorem tyC33 : TyC Try.prog 33 := ⟨fun _ => by kernel_rfl, fun _ => by kernel_rfl⟩
abbrev z33 : Value := .nilFunc
theorem tyZ33 : TyZ Try.prog 33 z33 := fun _ => by kernel_rfl
theorem tyC34 : TyC Try.prog 34 := ⟨fun _ => by kernel_rfl, fun _ => by kernel_rfl⟩
abbrev z34 : Value := .nilFunc
theorem tyZ34 : TyZ Try.prog 34 z34 := fun _ => by kernel_rfl
theorem tyC35 : TyC Try.prog 35 := ⟨fun _ => by kernel_rfl, fun _ => by kernel_rfl⟩
abbrev z35 : Value := .slice none 0 0
theorem tyZ35 : TyZ Try.prog 35 z35 := fun _ => by kernel_rfl
theorem tyA36 : TyA Try.prog 36 16 := ⟨fun _ => by kernel_rfl, fun _ => by kernel_rfl⟩
abbrev z36 : List Value := [.int .u8 0, .int .u8 0, .int .u8 0, .int .u8 0, .int .u8 0, .int .u8 0, .int .u8 0, .int .u8 0, .int .u8 0, .int .u8 0, .int .u8 0, .int .u8 0, .int .u8 0, .int .u8 0, .int .u8 0, .int .u8 0]
theorem tyZ36 : TyZ Try.prog 36 (.agg z36.toArray) := fun _ => by kernel_rfl
theorem tyA37 : TyA Try.prog 37 16 := ⟨fun _ => by kernel_rfl, fun _ => by kernel_rfl⟩
abbrev z37 : List Value := [.int .u8 0, .int .u8 0, .int .u8 0, .int .u8 0, .int .u8 0, .int .u8 0, .int .u8 0, .int .u8 0, .int .u8 0, .int .u8 0, .int .u8 0, .int .u8 0, .int .u8 0, .int .u8 0, .int .u8 0, .int .u8 0]
theorem tyZ37 : TyZ Try.prog 37 (.agg z37.toArray) := fun _ => by kernel_rfl
theorem tyA38 : TyA Try.prog 38 28 := ⟨fun _ => by kernel_rfl, fun _ => by kernel_rfl⟩
abbrev z38 : List Value := [.int .u8 0, .int .i64 0, .int .i64 0, .int .u64 0, .int .u64 0, .int .u64 0, .slice none 0 0, .int .u8 0, .int .i64 0, .int .i64 0, .int .u8 0, .int .u8 0, .int .u8 0, .int .u8 0, .int .u8 0, .int .u8 0, .int .u8 0, .int .u8 0, .int .u8 0, .int .u8 0, .int .u8 0, .int .u8 0, .int .u8 0, .int .u8 0, .int .u8 0, .int .u8 0, .int .i64 0, .int .i64 0]
theorem tyZ38 : TyZ Try.prog 38 (.agg z38.toArray) := fun _ => by kernel_rfl
theorem tyA39 : TyA Try.prog 39 28 := ⟨fun _ => by kernel_rfl, fun _ => by kernel_rfl⟩
abbrev z39 : List Value := [.int .u8 0, .int .i64 0, .int .i64 0, .int .u64 0, .int .u64 0, .int .u64 0, .slice none 0 0, .int .u8 0, .int .i64 0, .int .i64 0, .int .u8 0, .int .u8 0, .int .u8 0, .int .u8 0, .int .u8 0, .int .u8 0, .int .u8 0, .int .u8 0, .int .u8 0, .int .u8 0, .int .u8 0, .int .u8 0, .int .u8 0, .int .u8 0, .int .u8 0, .int .u8 0, .int .i64 0, .int .i64 0]
theorem tyZ39 : TyZ Try.prog 39 (.agg z39.toArray) := fun _ => by kernel_rfl
theorem tyC40 : TyC Try.prog 40 := ⟨fun _ => by kernel_rfl, fun _ => by kernel_rfl⟩
abbrev z40 : Value := .slice none 0 0
theorem tyZ40 : TyZ Try.prog 40 z40 := fun _ => by kernel_rfl
theorem tyC41 : TyC Try.prog 41 := ⟨fun _ => by kernel_rfl, fun _ => by kernel_rfl⟩
abbrev z41 : Value := .nilFunc
theorem tyZ41 : TyZ Try.prog 41 z41 := fun _ => by kernel_rfl
theorem tyC43 : TyC Try.prog 43 := ⟨fun _ => by kernel_rfl, fun _ => by kernel_rfl⟩
abbrev z43 : Value := .nilFunc
theorem tyZ43 : TyZ Try.prog 43 z43 := fun _ => by kernel_rfl
theorem tyC45 : TyC Try.prog 45 := ⟨fun _ => by kernel_rfl, fun _ => by kernel_rfl⟩
abbrev z45 : Value := .nilFunc
theorem tyZ45 : TyZ Try.prog 45 z45 := fun _ => by kernel_rfl
theorem tyC46 : TyC Try.prog 46 := ⟨fun _ => by kernel_rfl, fun _ => by kernel_rfl⟩
abbrev z46 : Value := .nilFunc
theorem tyZ46 : TyZ Try.prog 46 z46 := fun _ => by kernel_rfl
theorem tyC47 : TyC Try.prog 47 := ⟨fun _ => by kernel_rfl, fun _ => by kernel_rfl⟩
abbrev z47 : Value := .nilFunc
theorem tyZ47 : TyZ Try.prog 47 z47 := fun _ => by kernel_rfl
theorem tyC48 : TyC Try.prog 48 := ⟨fun _ => by kernel_rfl, fun _ => by kernel_rfl⟩
abbrev z48 : Value := .nilFunc
theorem tyZ48 : TyZ Try.prog 48 z48 := fun _ => by kernel_rfl
theorem tyC49 : TyC Try.prog 49 := ⟨fun _ => by kernel_rfl, fun _ => by kernel_rfl⟩
abbrev z49 : Value := .nilFunc
theorem tyZ49 : TyZ Try.prog 49 z49 := fun _ => by kernel_rfl
theorem tyC50 : TyC Try.prog 50 := ⟨fun _ => by kernel_rfl, fun _ => by kernel_rfl⟩
abbrev z50 : Value := .slice none 0 0
theorem tyZ50 : TyZ Try.prog 50 z50 := fun _ => by kernel_rfl
theorem tyA51 : TyA Try.prog 51 5 := ⟨fun _ => by kernel_rfl, fun _ => by kernel_rfl⟩
abbrev z51 : List Value := [.int .i64 0, .slice none 0 0, .slice none 0 0, .slice none 0 0, .int .i64 0]
theorem tyZ51 : TyZ Try.prog 51 (.agg z51.toArray) := fun _ => by kernel_rfl
theorem tyA52 : TyA Try.prog 52 5 := ⟨fun _ => by kernel_rfl, fun _ => by kernel_rfl⟩
abbrev z52 : List Value := [.int .i64 0, .slice none 0 0, .slice none 0 0, .slice none 0 0, .int .i64 0]
theorem tyZ52 : TyZ Try.prog 52 (.agg z52.toArray) := fun _ => by kernel_rfl
theorem tyC53 : TyC Try.prog 53 := ⟨fun _ => by kernel_rfl, fun _ => by kernel_rfl⟩
abbrev z53 : Value := .nilFunc
theorem tyZ53 : TyZ Try.prog 53 z53 := fun _ => by kernel_rfl
theorem tyC54 : TyC Try.prog 54 := ⟨fun _ => by kernel_rfl, fun _ => by kernel_rfl⟩
abbrev z54 : Value := .nilFunc
theorem tyZ54 : TyZ Try.prog 54 z54 := fun _ => by kernel_rfl
theorem tyC56 : TyC Try.prog 56 := ⟨fun _ => by kernel_rfl, fun _ => by kernel_rfl⟩
abbrev z56 : Value := .nilFunc
theorem tyZ56 : TyZ Try.prog 56 z56 := fun _ => by kernel_rfl
theorem tyC58 : TyC Try.prog 58 := ⟨fun _ => by kernel_rfl, fun _ => by kernel_rfl⟩
abbrev z58 : Value := .nilFunc
theorem tyZ58 : TyZ Try.prog 58 z58 := fun _ => by kernel_rfl
theorem tyC60 : TyC Try.prog 60 := ⟨fun _ => by kernel_rfl, fun _ => by kernel_rfl⟩
abbrev z60 : Value := .nilFunc
theorem tyZ60 : TyZ Try.prog 60 z60 := fun _ => by kernel_rfl
theorem tyC62 : TyC Try.prog 62 := ⟨fun _ => by kernel_rfl, fun _ => by kernel_rfl⟩
abbrev z62 : Value := .nilFunc
theorem tyZ62 : TyZ Try.prog 62 z62 := fun _ => by kernel_rfl
theorem tyC63 : TyC Try.prog 63 := ⟨fun _ => by kernel_rfl, fun _ => by kernel_rfl⟩
abbrev z63 : Value := .nilFunc
theorem tyZ63 : TyZ Try.prog 63 z63 := fun _ => by kernel_rfl
theorem tyC64 : TyC Try.prog 64 := ⟨fun _ => by kernel_rfl, fun _ => by kernel_rfl⟩
abbrev z64 : Value := .nilFunc
theorem tyZ64 : TyZ Try.prog 64 z64 := fun _ => by kernel_rfl
theorem tyC65 : TyC Try.prog 65 := ⟨fun _ => by kernel_rfl, fun _ => by kernel_rfl⟩
abbrev z65 : Value := .nilFunc
theorem tyZ65 : TyZ Try.prog 65 z65 := fun _ => by kernel_rfl
theorem tyC66 : TyC Try.prog 66 := ⟨fun _ => by kernel_rfl, fun _ => by kernel_rfl⟩
abbrev z66 : Value := .nilFunc
theorem tyZ66 : TyZ Try.prog 66 z66 := fun _ => by kernel_rfl
theorem tyC67 : TyC Try.prog 67 := ⟨fun _ => by kernel_rfl, fun _ => by kernel_rfl⟩
abbrev z67 : Value := .nilFunc
theorem tyZ67 : TyZ Try.prog 67 z67 := fun _ => by kernel_rfl
theorem tyC68 : TyC Try.prog 68 := ⟨fun _ => by kernel_rfl, fun _ => by kernel_rfl⟩
abbrev z68 : Value := .nilFunc
theorem tyZ68 : TyZ Try.prog 68 z68 := fun _ => by kernel_rfl
theorem tyC69 : TyC Try.prog 69 := ⟨fun _ => by kernel_rfl, fun _ => by kernel_rfl⟩
abbrev z69 : Value := .slice none 0 0
theorem tyZ69 : TyZ Try.prog 69 z69 := fun _ => by kernel_rfl
theorem tyC70 : TyC Try.prog 70 := ⟨fun _ => by kernel_rfl, fun _ => by kernel_rfl⟩
abbrev z70 : Value := .nilFunc
theorem tyZ70 : TyZ Try.prog 70 z70 := fun _ => by kernel_rfl
theorem tyC71 : TyC Try.prog 71 := ⟨fun _ => by kernel_rfl, fun _ => by kernel_rfl⟩
abbrev z71 : Value := .nilFunc
theorem tyZ71 : TyZ Try.prog 71 z71 := fun _ => by kernel_rfl
theorem tyC72 : TyC Try.prog 72 := ⟨fun _ => by kernel_rfl, fun _ => by kernel_rfl⟩
abbrev z72 : Value := .slice none 0 0
theorem tyZ72 : TyZ Try.prog 72 z72 := fun _ => by kernel_rfl
theorem tyC73 : TyC Try.prog 73 := ⟨fun _ => by kernel_rfl, fun _ => by kernel_rfl⟩
abbrev z73 : Value := .slice none 0 0
theorem tyZ73 : TyZ Try.prog 73 z73 := fun _ => by kernel_rfl
theorem tyA74 : TyA Try.prog 74 35 := ⟨fun _ => by kernel_rfl, fun _ => by kernel_rfl⟩
abbrev z74 : List Value := [.slice none 0 0, .int .u64 0, .slice none 0 0, .int .u8 0, .int .u8 0, .int .u8 0, .int .u8 0, .int .u8 0, .int .u8 0, .int .u8 0, .int .u8 0, .int .u8 0, .int .u8 0, .int .u8 0, .int .u8 0, .int .u8 0, .int .u8 0, .int .u8 0, .int .u8 0, .int .u8 0, .int .u8 0, .int .u8 0, .int .u8 0, .int .u8 0, .int .u8 0, .int .u8 0, .int .u8 0, .int .u8 0, .int .u8 0, .int .u8 0, .int .u8 0, .int .u8 0, .int .u8 0, .int .u8 0, .int .u8 0]
theorem tyZ74 : TyZ Try.prog 74 (.agg z74.toArray) := fun _ => by kernel_rfl
theorem tyA75 : TyA Try.prog 75 35 := ⟨fun _ => by kernel_rfl, fun _ => by kernel_rfl⟩
abbrev z75 : List Value := [.slice none 0 0, .int .u64 0, .slice none 0 0, .int .u8 0, .int .u8 0, .int .u8 0, .int .u8 0, .int .u8 0, .int .u8 0, .int .u8 0, .int .u8 0, .int .u8 0, .int .u8 0, .int .u8 0, .int .u8 0, .int .u8 0, .int .u8 0, .int .u8 0, .int .u8 0, .int .u8 0, .int .u8 0, .int .u8 0, .int .u8 0, .int .u8 0, .int .u8 0, .int .u8 0, .int .u8 0, .int .u8 0, .int .u8 0, .int .u8 0, .int .u8 0, .int .u8 0, .int .u8 0, .int .u8 0, .int .u8 0]
theorem tyZ75 : TyZ Try.prog 75 (.agg z75.toArray) := fun _ => by kernel_rfl
theorem tyC77 : TyC Try.prog 77 := ⟨fun _ => by kernel_rfl, fun _ => by kernel_rfl⟩
abbrev z77 : Value := .nilFunc
theorem tyZ77 : TyZ Try.prog 77 z77 := fun _ => by kernel_rfl
theorem tyC79 : TyC Try.prog 79 := ⟨fun _ => by kernel_rfl, fun _ => by kernel_rfl⟩
abbrev z79 : Value := .nilFunc
theorem tyZ79 : TyZ Try.prog 79 z79 := fun _ => by kernel_rfl
theorem tyC80 : TyC Try.prog 80 := ⟨fun _ => by kernel_rfl, fun _ => by kernel_rfl⟩
abbrev z80 : Value := .nilFunc
theorem tyZ80 : TyZ Try.prog 80 z80 := fun _ => by kernel_rfl
theorem tyC81 : TyC Try.prog 81 := ⟨fun _ => by kernel_rfl, fun _ => by kernel_rfl⟩
abbrev z81 : Value := .nilFunc
theorem tyZ81 : TyZ Try.prog 81 z81 := fun _ => by kernel_rfl
theorem tyC82 : TyC Try.prog 82 := ⟨fun _ => by kernel_rfl, fun _ => by kernel_rfl⟩
abbrev z82 : Value := .nilFunc
theorem tyZ82 : TyZ Try.prog 82 z82 := fun _ => by kernel_rfl
theorem tyC83 : TyC Try.prog 83 := ⟨fun _ => by kernel_rfl, fun _ => by kernel_rfl⟩
abbrev z83 : Value := .nilFunc
theorem tyZ83 : TyZ Try.prog 83 z83 := fun _ => by kernel_rfl
theorem tyC84 : TyC Try.prog 84 := ⟨fun _ => by kernel_rfl, fun _ => by kernel_rfl⟩
abbrev z84 : Value := .nilFunc
theorem tyZ84 : TyZ Try.prog 84 z84 := fun _ => by kernel_rfl
theorem tyC85 : TyC Try.prog 85 := ⟨fun _ => by kernel_rfl, fun _ => by kernel_rfl⟩
abbrev z85 : Value := .nilFunc
theorem tyZ85 : TyZ Try.prog 85 z85 := fun _ => by kernel_rfl
theorem tyC86 : TyC Try.prog 86 := ⟨fun _ => by kernel_rfl, fun _ => by kernel_rfl⟩
abbrev z86 : Value := .nilFunc
theorem tyZ86 : TyZ Try.prog 86 z86 := fun _ => by kernel_rfl
theorem tyC88 : TyC Try.prog 88 := ⟨fun _ => by kernel_rfl, fun _ => by kernel_rfl⟩
abbrev z88 : Value := .nilFunc
theorem tyZ88 : TyZ Try.prog 88 z88 := fun _ => by kernel_rfl
theorem tyC89 : TyC Try.prog 89 := ⟨fun _ => by kernel_rfl, fun _ => by kernel_rfl⟩
abbrev z89 : Value := .nilFunc
theorem tyZ89 : TyZ Try.prog 89 z89 := fun _ => by kernel_rfl
theorem tyC90 : TyC Try.prog 90 := ⟨fun _ => by kernel_rfl, fun _ => by kernel_rfl⟩
abbrev z90 : Value := .nilFunc
theorem tyZ90 : TyZ Try.prog 90 z90 := fun _ => by kernel_rfl
theorem tyC91 : TyC Try.prog 91 := ⟨fun _ => by kernel_rfl, fun _ => by kernel_rfl⟩
theorem tyC92 : TyC Try.prog 92 := ⟨fun _ => by kernel_rfl, fun _ => by kernel_rfl⟩
abbrev z92 : Value := .slice none 0 0
theorem tyZ92 : TyZ Try.prog 92 z92 := fun _ => by kernel_rfl
theorem tyC93 : TyC Try.prog 93 := ⟨fun _ => by kernel_rfl, fun _ => by kernel_rfl⟩
abbrev z93 : Value := .nilFunc
theorem tyZ93 : TyZ Try.prog 93 z93 := fun _ => by kernel_rfl
theorem tyC95 : TyC Try.prog 95 := ⟨fun _ => by kernel_rfl, fun _ => by kernel_rfl⟩
abbrev z95 : Value := .nilFunc
theorem tyZ95 : TyZ Try.prog 95 z95 := fun _ => by kernel_rfl
theorem tyC96 : TyC Try.prog 96 := ⟨fun _ => by kernel_rfl, fun _ => by kernel_rfl⟩
abbrev z96 : Value := .nilFunc
theorem tyZ96 : TyZ Try.prog 96 z96 := fun _ => by kernel_rfl
theorem tyC97 : TyC Try.prog 97 := ⟨fun _ => by kernel_rfl, fun _ => by kernel_rfl⟩
abbrev z97 : Value := .nilFunc
theorem tyZ97 : TyZ Try.prog 97 z97 := fun _ => by kernel_rfl
theorem tyA98 : TyA Try.prog 98 2 := ⟨fun _ => by kernel_rfl, fun _ => by kernel_rfl⟩
abbrev z98 : List Value := [.slice none 0 0, .slice none 0 0]
theorem tyZ98 : TyZ Try.prog 98 (.agg z98.toArray) := fun _ => by kernel_rfl
theorem tyA99 : TyA Try.prog 99 2 := ⟨fun _ => by kernel_rfl, fun _ => by kernel_rfl⟩
abbrev z99 : List Value := [.slice none 0 0, .slice none 0 0]
theorem tyZ99 : TyZ Try.prog 99 (.agg z99.toArray) := fun _ => by kernel_rfl
theorem tyC100 : TyC Try.prog 100 := ⟨fun _ => by kernel_rfl, fun _ => by kernel_rfl⟩
abbrev z100 : Value := .nilFunc
theorem tyZ100 : TyZ Try.prog 100 z100 := fun _ => by kernel_rfl
theorem tyC101 : TyC Try.prog 101 := ⟨fun _ => by kernel_rfl, fun _ => by kernel_rfl⟩
abbrev z101 : Value := .nilFunc
theorem tyZ101 : TyZ Try.prog 101 z101 := fun _ => by kernel_rfl
theorem tyC102 : TyC Try.prog 102 := ⟨fun _ => by kernel_rfl, fun _ => by kernel_rfl⟩
abbrev z102 : Value := .nilFunc
theorem tyZ102 : TyZ Try.prog 102 z102 := fun _ => by kernel_rfl
theorem tyC103 : TyC Try.prog 103 := ⟨fun _ => by kernel_rfl, fun _ => by kernel_rfl⟩
abbrev z103 : Value := .nilFunc
theorem tyZ103 : TyZ Try.prog 103 z103 := fun _ => by kernel_rfl
theorem tyC104 : TyC Try.prog 104 := ⟨fun _ => by kernel_rfl, fun _ => by kernel_rfl⟩
abbrev z104 : Value := .nilFunc
theorem tyZ104 : TyZ Try.prog 104 z104 := fun _ => by kernel_rfl
theorem tyC105 : TyC Try.prog 105 := ⟨fun _ => by kernel_rfl, fun _ => by kernel_rfl⟩
abbrev z105 : Value := .nilFunc
theorem tyZ105 : TyZ Try.prog 105 z105 := fun _ => by kernel_rfl
theorem tyC106 : TyC Try.prog 106 := ⟨fun _ => by kernel_rfl, fun _ => by kernel_rfl⟩
abbrev z106 : Value := .nilFunc
theorem tyZ106 : TyZ Try.prog 106 z106 := fun _ => by kernel_rfl
theorem tyC107 : TyC Try.prog 107 := ⟨fun _ => by kernel_rfl, fun _ => by kernel_rfl⟩
abbrev z107 : Value := .nilFunc
theorem tyZ107 : TyZ Try.prog 107 z107 := fun _ => by kernel_rfl
theorem tyC108 : TyC Try.prog 108 := ⟨fun _ => by kernel_rfl, fun _ => by kernel_rfl⟩
abbrev z108 : Value := .nilFunc
theorem tyZ108 : TyZ Try.prog 108 z108 := fun _ => by kernel_rfl
theorem tyC110 : TyC Try.prog 110 := ⟨fun _ => by kernel_rfl, fun _ => by kernel_rfl⟩
abbrev z110 : Value := .nilFunc
theorem tyZ110 : TyZ Try.prog 110 z110 := fun _ => by kernel_rfl
theorem tyA111 : TyA Try.prog 111 2 := ⟨fun _ => by kernel_rfl, fun _ => by kernel_rfl⟩
abbrev z111 : List Value := [.int .i64 0, .int .i64 0]
theorem tyZ111 : TyZ Try.prog 111 (.agg z111.toArray) := fun _ => by kernel_rfl
theorem tyA112 : TyA Try.prog 112 2 := ⟨fun _ => by kernel_rfl, fun _ => by kernel_rfl⟩
abbrev z112 : List Value := [.int .i64 0, .int .i64 0]
theorem tyZ112 : TyZ Try.prog 112 (.agg z112.toArray) := fun _ => by kernel_rfl
theorem tyC113 : TyC Try.prog 113 := ⟨fun _ => by kernel_rfl, fun _ => by kernel_rfl⟩
abbrev z113 : Value := .nilFunc
theorem tyZ113 : TyZ Try.prog 113 z113 := fun _ => by kernel_rfl
theorem tyC114 : TyC Try.prog 114 := ⟨fun _ => by kernel_rfl, fun _ => by kernel_rfl⟩
abbrev z114 : Value := .nilFunc
theorem tyZ114 : TyZ Try.prog 114 z114 := fun _ => by kernel_rfl
theorem tyA115 : TyA Try.prog 115 18 := ⟨fun _ => by kernel_rfl, fun _ => by kernel_rfl⟩
abbrev z115 : List Value := [.int .i64 0, .int .i64 0, .int .u8 0, .int .u8 0, .int .u8 0, .int .u8 0, .int .u8 0, .int .u8 0, .int .u8 0, .int .u8 0, .int .u8 0, .int .u8 0, .int .u8 0, .int .u8 0, .int .u8 0, .int .u8 0, .int .u8 0, .int .u8 0]
theorem tyZ115 : TyZ Try.prog 115 (.agg z115.toArray) := fun _ => by kernel_rfl
theorem tyA116 : TyA Try.prog 116 18 := ⟨fun _ => by kernel_rfl, fun _ => by kernel_rfl⟩
abbrev z116 : List Value := [.int .i64 0, .int .i64 0, .int .u8 0, .int .u8 0, .int .u8 0, .int .u8 0, .int .u8 0, .int .u8 0, .int .u8 0, .int .u8 0, .int .u8 0, .int .u8 0, .int .u8 0, .int .u8 0, .int .u8 0, .int .u8 0, .int .u8 0, .int .u8 0]
theorem tyZ116 : TyZ Try.prog 116 (.agg z116.toArray) := fun _ => by kernel_rfl
theorem tyC117 : TyC Try.prog 117 := ⟨fun _ => by kernel_rfl, fun _ => by kernel_rfl⟩
abbrev z117 : Value := .nilFunc
theorem tyZ117 : TyZ Try.prog 117 z117 := fun _ => by kernel_rfl
theorem tyC118 : TyC Try.prog 118 := ⟨fun _ => by kernel_rfl, fun _ => by kernel_rfl⟩
abbrev z118 : Value := .nilFunc
theorem tyZ118 : TyZ Try.prog 118 z118 := fun _ => by kernel_rfl
theorem tyC119 : TyC Try.prog 119 := ⟨fun _ => by kernel_rfl, fun _ => by kernel_rfl⟩
abbrev z119 : Value := .nilFunc
theorem tyZ119 : TyZ Try.prog 119 z119 := fun _ => by kernel_rfl
theorem tyC120 : TyC Try.prog 120 := ⟨fun _ => by kernel_rfl, fun _ => by kernel_rfl⟩
abbrev z120 : Value := .nilFunc
theorem tyZ120 : TyZ Try.prog 120 z120 := fun _ => by kernel_rfl
theorem tyA121 : TyA Try.prog 121 2 := ⟨fun _ => by kernel_rfl, fun _ => by kernel_rfl⟩
abbrev z121 : List Value := [.int .u64 0, .int .u64 0]
theorem tyZ121 : TyZ Try.prog 121 (.agg z121.toArray) := fun _ => by kernel_rfl
theorem tyA122 : TyA Try.prog 122 2 := ⟨fun _ => by kernel_rfl, fun _ => by kernel_rfl⟩
abbrev z122 : List Value := [.int .u64 0, .int .u64 0]
theorem tyZ122 : TyZ Try.prog 122 (.agg z122.toArray) := fun _ => by kernel_rfl
theorem tyA123 : TyA Try.prog 123 3 := ⟨fun _ => by kernel_rfl, fun _ => by kernel_rfl⟩
abbrev z123 : List Value := [.int .u8 0, .int .i64 0, .int .i64 0]
theorem tyZ123 : TyZ Try.prog 123 (.agg z123.toArray) := fun _ => by kernel_rfl
theorem tyA124 : TyA Try.prog 124 3 := ⟨fun _ => by kernel_rfl, fun _ => by kernel_rfl⟩
abbrev z124 : List Value := [.int .u8 0, .int .i64 0, .int .i64 0]
theorem tyZ124 : TyZ Try.prog 124 (.agg z124.toArray) := fun _ => by kernel_rfl
theorem tyC126 : TyC Try.prog 126 := ⟨fun _ => by kernel_rfl, fun _ => by kernel_rfl⟩
abbrev z126 : Value := .nilFunc
theorem tyZ126 : TyZ Try.prog 126 z126 := fun _ => by kernel_rfl
theorem tyC127 : TyC Try.prog 127 := ⟨fun _ => by kernel_rfl, fun _ => by kernel_rfl⟩
abbrev z127 : Value := .nilFunc
theorem tyZ127 : TyZ Try.prog 127 z127 := fun _ => by kernel_rfl
theorem tyC128 : TyC Try.prog 128 := ⟨fun _ => by kernel_rfl, fun _ => by kernel_rfl⟩
abbrev z128 : Value := .nilFunc
theorem tyZ128 : TyZ Try.prog 128 z128 := fun _ => by kernel_rfl
theorem tyA129 : TyA Try.prog 129 3 := ⟨fun _ => by kernel_rfl, fun _ => by kernel_rfl⟩
abbrev z129 : List Value := [.int .i64 0, .int .i64 0, .bool false]
theorem tyZ129 : TyZ Try.prog 129 (.agg z129.toArray) := fun _ => by kernel_rfl
theorem tyA130 : TyA Try.prog 130 3 := ⟨fun _ => by kernel_rfl, fun _ => by kernel_rfl⟩
abbrev z130 : List Value := [.int .i64 0, .int .i64 0, .bool false]
theorem tyZ130 : TyZ Try.prog 130 (.agg z130.toArray) := fun _ => by kernel_rfl
theorem tyC131 : TyC Try.prog 131 := ⟨fun _ => by kernel_rfl, fun _ => by kernel_rfl⟩
abbrev z131 : Value := .nilFunc
theorem tyZ131 : TyZ Try.prog 131 z131 := fun _ => by kernel_rfl
theorem tyC132 : TyC Try.prog 132 := ⟨fun _ => by kernel_rfl, fun _ => by kernel_rfl⟩
abbrev z132 : Value := .nilFunc
theorem tyZ132 : TyZ Try.prog 132 z132 := fun _ => by kernel_rfl
theorem tyC133 : TyC Try.prog 133 := ⟨fun _ => by kernel_rfl, fun _ => by kernel_rfl⟩
abbrev z133 : Value := .nilFunc
theorem tyZ133 : TyZ Try.prog 133 z133 := fun _ => by kernel_rfl
theorem tyC135 : TyC Try.prog 135 := ⟨fun _ => by kernel_rfl, fun _ => by kernel_rfl⟩
abbrev z135 : Value := .nilFunc
theorem tyZ135 : TyZ Try.prog 135 z135 := fun _ => by kernel_rfl
theorem tyC136 : TyC Try.prog 136 := ⟨fun _ => by kernel_rfl, fun _ => by kernel_rfl⟩
abbrev z136 : Value := .nilFunc
theorem tyZ136 : TyZ Try.prog 136 z136 := fun _ => by kernel_rfl
theorem tyC137 : TyC Try.prog 137 := ⟨fun _ => by kernel_rfl, fun _ => by kernel_rfl⟩
abbrev z137 : Value := .nilFunc
theorem tyZ137 : TyZ Try.prog 137 z137 := fun _ => by kernel_rfl
theorem tyC139 : TyC Try.prog 139 := ⟨fun _ => by kernel_rfl, fun _ => by kernel_rfl⟩
abbrev z139 : Value := .nilFunc
theorem tyZ139 : TyZ Try.prog 139 z139 := fun _ => by kernel_rfl
theorem tyC140 : TyC Try.prog 140 := ⟨fun _ => by kernel_rfl, fun _ => by kernel_rfl⟩
abbrev z140 : Value := .nilFunc
theorem tyZ140 : TyZ Try.prog 140 z140 := fun _ => by kernel_rfl
theorem tyC141 : TyC Try.prog 141 := ⟨fun _ => by kernel_rfl, fun _ => by kernel_rfl⟩
abbrev z141 : Value := .nilFunc
theorem tyZ141 : TyZ Try.prog 141 z141 := fun _ => by kernel_rfl
theorem tyC142 : TyC Try.prog 142 := ⟨fun _ => by kernel_rfl, fun _ => by kernel_rfl⟩
abbrev z142 : Value := .nilFunc
theorem tyZ142 : TyZ Try.prog 142 z142 := fun _ => by kernel_rfl
theorem tyC143 : TyC Try.prog 143 := ⟨fun _ => by kernel_rfl, fun _ => by kernel_rfl⟩
abbrev z143 : Value := .nilFunc
theorem tyZ143 : TyZ Try.prog 143 z143 := fun _ => by kernel_rfl
theorem tyC144 : TyC Try.prog 144 := ⟨fun _ => by kernel_rfl, fun _ => by kernel_rfl⟩
abbrev z144 : Value := .nilFunc
theorem tyZ144 : TyZ Try.prog 144 z144 := fun _ => by kernel_rfl
theorem tyC146 : TyC Try.prog 146 := ⟨fun _ => by kernel_rfl, fun _ => by kernel_rfl⟩
abbrev z146 : Value := .nilFunc
theorem tyZ146 : TyZ Try.prog 146 z146 := fun _ => by kernel_rfl
theorem tyC147 : TyC Try.prog 147 := ⟨fun _ => by kernel_rfl, fun _ => by kernel_rfl⟩
abbrev z147 : Value := .nilFunc
theorem tyZ147 : TyZ Try.prog 147 z147 := fun _ => by kernel_rfl
theorem tyA148 : TyA Try.prog 148 2 := ⟨fun _ => by kernel_rfl, fun _ => by kernel_rfl⟩
abbrev z148 : List Value := [.int .u64 0, .int .u64 0]
theorem tyZ148 : TyZ Try.prog 148 (.agg z148.toArray) := fun _ => by kernel_rfl
theorem tyA149 : TyA Try.prog 149 2 := ⟨fun _ => by kernel_rfl, fun _ => by kernel_rfl⟩
abbrev z149 : List Value := [.int .u64 0, .int .u64 0]
theorem tyZ149 : TyZ Try.prog 149 (.agg z149.toArray) := fun _ => by kernel_rfl
theorem tyC150 : TyC Try.prog 150 := ⟨fun _ => by kernel_rfl, fun _ => by kernel_rfl⟩
abbrev z150 : Value := .nilFunc
theorem tyZ150 : TyZ Try.prog 150 z150 := fun _ => by kernel_rfl
theorem tyC151 : TyC Try.prog 151 := ⟨fun _ => by kernel_rfl, fun _ => by kernel_rfl⟩
abbrev z151 : Value := .nilFunc
theorem tyZ151 : TyZ Try.prog 151 z151 := fun _ => by kernel_rfl
theorem tyC152 : TyC Try.prog 152 := ⟨fun _ => by kernel_rfl, fun _ => by kernel_rfl⟩
abbrev z152 : Value := .nilFunc
theorem tyZ152 : TyZ Try.prog 152 z152 := fun _ => by kernel_rfl
theorem tyC153 : TyC Try.prog 153 := ⟨fun _ => by kernel_rfl, fun _ => by kernel_rfl⟩
abbrev z153 : Value := .nilFunc
theorem tyZ153 : TyZ Try.prog 153 z153 := fun _ => by kernel_rfl
theorem tyC154 : TyC Try.prog 154 := ⟨fun _ => by kernel_rfl, fun _ => by kernel_rfl⟩
abbrev z154 : Value := .nilFunc
theorem tyZ154 : TyZ Try.prog 154 z154 := fun _ => by kernel_rfl
theorem tyC155 : TyC Try.prog 155 := ⟨fun _ => by kernel_rfl, fun _ => by kernel_rfl⟩
abbrev z155 : Value := .nilFunc
theorem tyZ155 : TyZ Try.prog 155 z155 := fun _ => by kernel_rfl
theorem tyC156 : TyC Try.prog 156 := ⟨fun _ => by kernel_rfl, fun _ => by kernel_rfl⟩
abbrev z156 : Value := .nilFunc
theorem tyZ156 : TyZ Try.prog 156 z156 := fun _ => by kernel_rfl
theorem tyC158 : TyC Try.prog 158 := ⟨fun _ => by kernel_rfl, fun _ => by kernel_rfl⟩
abbrev z158 : Value := .nilFunc
theorem tyZ158 : TyZ Try.prog 158 z158 := fun _ => by kernel_rfl
theorem tyC159 : TyC Try.prog 159 := ⟨fun _ => by kernel_rfl, fun _ => by kernel_rfl⟩
abbrev z159 : Value := .slice none 0 0
theorem tyZ159 : TyZ Try.prog 159 z159 := fun _ => by kernel_rfl
theorem tyC160 : TyC Try.prog 160 := ⟨fun _ => by kernel_rfl, fun _ => by kernel_rfl⟩
abbrev z160 : Value := .nilFunc
theorem tyZ160 : TyZ Try.prog 160 z160 := fun _ => by kernel_rfl
theorem tyC161 : TyC Try.prog 161 := ⟨fun _ => by kernel_rfl, fun _ => by kernel_rfl⟩
abbrev z161 : Value := .nilFunc
theorem tyZ161 : TyZ Try.prog 161 z161 := fun _ => by kernel_rfl
theorem tyC162 : TyC Try.prog 162 := ⟨fun _ => by kernel_rfl, fun _ => by kernel_rfl⟩
abbrev z162 : Value := .nilFunc
theorem tyZ162 : TyZ Try.prog 162 z162 := fun _ => by kernel_rfl
theorem tyC163 : TyC Try.prog 163 := ⟨fun _ => by kernel_rfl, fun _ => by kernel_rfl⟩
abbrev z163 : Value := .nilFunc
theorem tyZ163 : TyZ Try.prog 163 z163 := fun _ => by kernel_rfl
theorem tyC164 : TyC Try.prog 164 := ⟨fun _ => by kernel_rfl, fun _ => by kernel_rfl⟩
abbrev z164 : Value := .nilFunc
theorem tyZ164 : TyZ Try.prog 164 z164 := fun _ => by kernel_rfl
theorem tyC165 : TyC Try.prog 165 := ⟨fun _ => by kernel_rfl, fun _ => by kernel_rfl⟩
abbrev z165 : Value := .nilFunc
theorem tyZ165 : TyZ Try.prog 165 z165 := fun _ => by kernel_rfl
theorem tyC166 : TyC Try.prog 166 := ⟨fun _ => by kernel_rfl, fun _ => by kernel_rfl⟩
abbrev z166 : Value := .nilFunc
theorem tyZ166 : TyZ Try.prog 166 z166 := fun _ => by kernel_rfl
theorem tyC167 : TyC Try.prog 167 := ⟨fun _ => by kernel_rfl, fun _ => by kernel_rfl⟩
theorem tyC168 : TyC Try.prog 168 := ⟨fun _ => by kernel_rfl, fun _ => by kernel_rfl⟩
abbrev z168 : Value := .nilFunc
theorem tyZ168 : TyZ Try.prog 168 z168 := fun _ => by kernel_rfl
theorem tyC169 : TyC Try.prog 169 := ⟨fun _ => by kernel_rfl, fun _ => by kernel_rfl⟩
abbrev z169 : Value := .int .u64 0
theorem tyZ169 : TyZ Try.prog 169 z169 := fun _ => by kernel_rfl
theorem tyC170 : TyC Try.prog 170 := ⟨fun _ => by kernel_rfl, fun _ => by kernel_rfl⟩
abbrev z170 : Value := .nilFunc
theorem tyZ170 : TyZ Try.prog 170 z170 := fun _ => by kernel_rfl
theorem tyC171 : TyC Try.prog 171 := ⟨fun _ => by kernel_rfl, fun _ => by kernel_rfl⟩
abbrev z171 : Value := .nilFunc
theorem tyZ171 : TyZ Try.prog 171 z171 := fun _ => by kernel_rfl
theorem tyC172 : TyC Try.prog 172 := ⟨fun _ => by kernel_rfl, fun _ => by kernel_rfl⟩
abbrev z172 : Value := .slice none 0 0
theorem tyZ172 : TyZ Try.prog 172 z172 := fun _ => by kernel_rfl
theorem tyC173 : TyC Try.prog 173 := ⟨fun _ => by kernel_rfl, fun _ => by kernel_rfl⟩
abbrev z173 : Value := .nilFunc
theorem tyZ173 : TyZ Try.prog 173 z173 := fun _ => by kernel_rfl
theorem tyC174 : TyC Try.prog 174 := ⟨fun _ => by kernel_rfl, fun _ => by kernel_rfl⟩
abbrev z174 : Value := .nilFunc
theorem tyZ174 : TyZ Try.prog 174 z174 := fun _ => by kernel_rfl
theorem tyC175 : TyC Try.prog 175 := ⟨fun _ => by kernel_rfl, fun _ => by kernel_rfl⟩
abbrev z175 : Value := .nilFunc
theorem tyZ175 : TyZ Try.prog 175 z175 := fun _ => by kernel_rfl
theorem tyC176 : TyC Try.prog 176 := ⟨fun _ => by kernel_rfl, fun _ => by kernel_rfl⟩
abbrev z176 : Value := .nilFunc
theorem tyZ176 : TyZ Try.prog 176 z176 := fun _ => by kernel_rfl
theorem tyC177 : TyC Try.prog 177 := ⟨fun _ => by kernel_rfl, fun _ => by kernel_rfl⟩
abbrev z177 : Value := .int .i64 0
theorem tyZ177 : TyZ Try.prog 177 z177 := fun _ => by kernel_rfl
theorem tyC178 : TyC Try.prog 178 := ⟨fun _ => by kernel_rfl, fun _ => by kernel_rfl⟩
abbrev z178 : Value := .nilFunc
theorem tyZ178 : TyZ Try.prog 178 z178 := fun _ => by kernel_rfl
theorem tyC179 : TyC Try.prog 179 := ⟨fun _ => by kernel_rfl, fun _ => by kernel_rfl⟩
abbrev z179 : Value := .nilFunc
theorem tyZ179 : TyZ Try.prog 179 z179 := fun _ => by kernel_rfl
theorem tyC180 : TyC Try.prog 180 := ⟨fun _ => by kernel_rfl, fun _ => by kernel_rfl⟩
abbrev z180 : Value := .nilFunc
theorem tyZ180 : TyZ Try.prog 180 z180 := fun _ => by kernel_rfl
theorem tyC181 : TyC Try.prog 181 := ⟨fun _ => by kernel_rfl, fun _ => by kernel_rfl⟩
abbrev z181 : Value := .nilFunc
theorem tyZ181 : TyZ Try.prog 181 z181 := fun _ => by kernel_rfl
theorem tyC182 : TyC Try.prog 182 := ⟨fun _ => by kernel_rfl, fun _ => by kernel_rfl⟩
abbrev z182 : Value := .nilFunc
theorem tyZ182 : TyZ Try.prog 182 z182 := fun _ => by kernel_rfl
theorem tyC183 : TyC Try.prog 183 := ⟨fun _ => by kernel_rfl, fun _ => by kernel_rfl⟩
abbrev z183 : Value := .nilFunc
theorem tyZ183 : TyZ Try.prog 183 z183 := fun _ => by kernel_rfl
theorem tyC184 : TyC Try.prog 184 := ⟨fun _ => by kernel_rfl, fun _ => by kernel_rfl⟩
abbrev z184 : Value := .nilFunc
theorem tyZ184 : TyZ Try.prog 184 z184 := fun _ => by kernel_rfl
theorem tyC185 : TyC Try.prog 185 := ⟨fun _ => by kernel_rfl, fun _ => by kernel_rfl⟩
abbrev z185 : Value := .nilFunc
theorem tyZ185 : TyZ Try.prog 185 z185 := fun _ => by kernel_rfl
theorem tyC186 : TyC Try.prog 186 := ⟨fun _ => by kernel_rfl, fun _ => by kernel_rfl⟩
abbrev z186 : Value := .nilFunc
theorem tyZ186 : TyZ Try.prog 186 z186 := fun _ => by kernel_rfl
theorem tyC187 : TyC Try.prog 187 := ⟨fun _ => by kernel_rfl, fun _ => by kernel_rfl⟩
abbrev z187 : Value := .nilFunc
theorem tyZ187 : TyZ Try.prog 187 z187 := fun _ => by kernel_rfl
theorem tyC188 : TyC Try.prog 188 := ⟨fun _ => by kernel_rfl, fun _ => by kernel_rfl⟩
abbrev z188 : Value := .nilFunc
theorem tyZ188 : TyZ Try.prog 188 z188 := fun _ => by kernel_rfl
theorem tyC189 : TyC Try.prog 189 := ⟨fun _ => by kernel_rfl, fun _ => by kernel_rfl⟩
abbrev z189 : Value := .nilFunc
theorem tyZ189 : TyZ Try.prog 189 z189 := fun _ => by kernel_rfl
theorem tyC190 : TyC Try.prog 190 := ⟨fun _ => by kernel_rfl, fun _ => by kernel_rfl⟩
abbrev z190 : Value := .nilFunc
theorem tyZ190 : TyZ Try.prog 190 z190 := fun _ => by kernel_rfl
theorem tyC191 : TyC Try.prog 191 := ⟨fun _ => by kernel_rfl, fun _ => by kernel_rfl⟩
abbrev z191 : Value := .nilFunc
theorem tyZ191 : TyZ Try.prog 191 z191 := fun _ => by kernel_rfl
theorem tyC192 : TyC Try.prog 192 := ⟨fun _ => by kernel_rfl, fun _ => by kernel_rfl⟩
abbrev z192 : Value := .nilFunc
theorem tyZ192 : TyZ Try.prog 192 z192 := fun _ => by kernel_rfl
theorem tyC193 : TyC Try.prog 193 := ⟨fun _ => by kernel_rfl, fun _ => by kernel_rfl⟩
abbrev z193 : Value := .nilFunc
theorem tyZ193 : TyZ Try.prog 193 z193 := fun _ => by kernel_rfl
theorem tyC194 : TyC Try.prog 194 := ⟨fun _ => by kernel_rfl, fun _ => by kernel_rfl⟩
abbrev z194 : Value := .nilFunc
theorem tyZ194 : TyZ Try.prog 194 z194 := fun _ => by kernel_rfl
theorem tyC195 : TyC Try.prog 195 := ⟨fun _ => by kernel_rfl, fun _ => by kernel_rfl⟩
abbrev z195 : Value := .nilFunc
theorem tyZ195 : TyZ Try.prog 195 z195 := fun _ => by kernel_rfl
theorem tyC196 : TyC Try.prog 196 := ⟨fun _ => by kernel_rfl, fun _ => by kernel_rfl⟩
abbrev z196 : Value := .nilFunc
theorem tyZ196 : TyZ Try.prog 196 z196 := fun _ => by kernel_rfl
theorem tyC197 : TyC Try.prog 197 := ⟨fun _ => by kernel_rfl, fun _ => by kernel_rfl⟩
abbrev z197 : Value := .nilFunc
theorem tyZ197 : TyZ Try.prog 197 z197 := fun _ => by kernel_rfl
theorem tyC198 : TyC Try.prog 198 := ⟨fun _ => by kernel_rfl, fun _ => by kernel_rfl⟩
abbrev z198 : Value := .nilFunc
theorem tyZ198 : TyZ Try.prog 198 z198 := fun _ => by kernel_rfl
theorem tyC199 : TyC Try.prog 199 := ⟨fun _ => by kernel_rfl, fun _ => by kernel_rfl⟩
abbrev z199 : Value := .nilFunc
theorem tyZ199 : TyZ Try.prog 199 z199 := fun _ => by kernel_rfl
theorem tyC200 : TyC Try.prog 200 := ⟨fun _ => by kernel_rfl, fun _ => by kernel_rfl⟩
abbrev z200 : Value := .int .i64 0
theorem tyZ200 : TyZ Try.prog 200 z200 := fun _ => by kernel_rfl
theorem tyC202 : TyC Try.prog 202 := ⟨fun _ => by kernel_rfl, fun _ => by kernel_rfl⟩
abbrev z202 : Value := .nilFunc
theorem tyZ202 : TyZ Try.prog 202 z202 := fun _ => by kernel_rfl
theorem tyC203 : TyC Try.prog 203 := ⟨fun _ => by kernel_rfl, fun _ => by kernel_rfl⟩
abbrev z203 : Value := .nilFunc
theorem tyZ203 : TyZ Try.prog 203 z203 := fun _ => by kernel_rfl
theorem tyC204 : TyC Try.prog 204 := ⟨fun _ => by kernel_rfl, fun _ => by kernel_rfl⟩
abbrev z204 : Value := .nilFunc
theorem tyZ204 : TyZ Try.prog 204 z204 := fun _ => by kernel_rfl
theorem tyC205 : TyC Try.prog 205 := ⟨fun _ => by kernel_rfl, fun _ => by kernel_rfl⟩
abbrev z205 : Value := .nilFunc
theorem tyZ205 : TyZ Try.prog 205 z205 := fun _ => by kernel_rfl
theorem tyC206 : TyC Try.prog 206 := ⟨fun _ => by kernel_rfl, fun _ => by kernel_rfl⟩
abbrev z206 : Value := .nilFunc
theorem tyZ206 : TyZ Try.prog 206 z206 := fun _ => by kernel_rfl
theorem tyC207 : TyC Try.prog 207 := ⟨fun _ => by kernel_rfl, fun _ => by kernel_rfl⟩
abbrev z207 : Value := .int .u32 0
theorem tyZ207 : TyZ Try.prog 207 z207 := fun _ => by kernel_rfl
theorem tyC208 : TyC Try.prog 208 := ⟨fun _ => by kernel_rfl, fun _ => by kernel_rfl⟩
abbrev z208 : Value := .nilFunc
theorem tyZ208 : TyZ Try.prog 208 z208 := fun _ => by kernel_rfl
theorem tyC209 : TyC Try.prog 209 := ⟨fun _ => by kernel_rfl, fun _ => by kernel_rfl⟩
abbrev z209 : Value := .nilFunc
theorem tyZ209 : TyZ Try.prog 209 z209 := fun _ => by kernel_rfl
theorem tyC210 : TyC Try.prog 210 := ⟨fun _ => by kernel_rfl, fun _ => by kernel_rfl⟩
abbrev z210 : Value := .nilFunc
theorem tyZ210 : TyZ Try.prog 210 z210 := fun _ => by kernel_rfl
theorem tyC211 : TyC Try.prog 211 := ⟨fun _ => by kernel_rfl, fun _ => by kernel_rfl⟩
abbrev z211 : Value := .int .u64 0
theorem tyZ211 : TyZ Try.prog 211 z211 := fun _ => by kernel_rfl
theorem tyC212 : TyC Try.prog 212 := ⟨fun _ => by kernel_rfl, fun _ => by kernel_rfl⟩
abbrev z212 : Value := .nilFunc
theorem tyZ212 : TyZ Try.prog 212 z212 := fun _ => by kernel_rfl
theorem tyC213 : TyC Try.prog 213 := ⟨fun _ => by kernel_rfl, fun _ => by kernel_rfl⟩
abbrev z213 : Value := .nilFunc
theorem tyZ213 : TyZ Try.prog 213 z213 := fun _ => by kernel_rfl
theorem tyC214 : TyC Try.prog 214 := ⟨fun _ => by kernel_rfl, fun _ => by kernel_rfl⟩
abbrev z214 : Value := .nilFunc
theorem tyZ214 : TyZ Try.prog 214 z214 := fun _ => by kernel_rfl
theorem tyC215 : TyC Try.prog 215 := ⟨fun _ => by kernel_rfl, fun _ => by kernel_rfl⟩
theorem tyC216 : TyC Try.prog 216 := ⟨fun _ => by kernel_rfl, fun _ => by kernel_rfl⟩
abbrev z216 : Value := .nilFunc
theorem tyZ216 : TyZ Try.prog 216 z216 := fun _ => by kernel_rfl
theorem tyC217 : TyC Try.prog 217 := ⟨fun _ => by kernel_rfl, fun _ => by kernel_rfl⟩
theorem tyC218 : TyC Try.prog 218 := ⟨fun _ => by kernel_rfl, fun _ => by kernel_rfl⟩
abbrev z218 : Value := .nilFunc
theorem tyZ218 : TyZ Try.prog 218 z218 := fun _ => by kernel_rfl
theorem tyC219 : TyC Try.prog 219 := ⟨fun _ => by kernel_rfl, fun _ => by kernel_rfl⟩
abbrev z219 : Value := .nilFunc
theorem tyZ219 : TyZ Try.prog 219 z219 := fun _ => by kernel_rfl
theorem tyA220 : TyA Try.prog 220 4 := ⟨fun _ => by kernel_rfl, fun _ => by kernel_rfl⟩
theorem tyA221 : TyA Try.prog 221 4 := ⟨fun _ => by kernel_rfl, fun _ => by kernel_rfl⟩
theorem tyC225 : TyC Try.prog 225 := ⟨fun _ => by kernel_rfl, fun _ => by kernel_rfl⟩
abbrev z225 : Value := .int .u8 0
theorem tyZ225 : TyZ Try.prog 225 z225 := fun _ => by kernel_rfl
theorem tyC226 : TyC Try.prog 226 := ⟨fun _ => by kernel_rfl, fun _ => by kernel_rfl⟩
abbrev z226 : Value := .int .u8 0
theorem tyZ226 : TyZ Try.prog 226 z226 := fun _ => by kernel_rfl
theorem tyC227 : TyC Try.prog 227 := ⟨fun _ => by kernel_rfl, fun _ => by kernel_rfl⟩
abbrev z227 : Value := .nilFunc
theorem tyZ227 : TyZ Try.prog 227 z227 := fun _ => by kernel_rfl
theorem tyC228 : TyC Try.prog 228 := ⟨fun _ => by kernel_rfl, fun _ => by kernel_rfl⟩
theorem tyC229 : TyC Try.prog 229 := ⟨fun _ => by kernel_rfl, fun _ => by kernel_rfl⟩
abbrev z229 : Value := .int .i32 0
theorem tyZ229 : TyZ Try.prog 229 z229 := fun _ => by kernel_rfl
theorem tyC230 : TyC Try.prog 230 := ⟨fun _ => by kernel_rfl, fun _ => by kernel_rfl⟩
abbrev z230 : Value := .int .i32 0
theorem tyZ230 : TyZ Try.prog 230 z230 := fun _ => by kernel_rfl
theorem tyA231 : TyA Try.prog 231 11 := ⟨fun _ => by kernel_rfl, fun _ => by kernel_rfl⟩
theorem tyA232 : TyA Try.prog 232 11 := ⟨fun _ => by kernel_rfl, fun _ => by kernel_rfl⟩
theorem en3 : Enters Try.prog 3 := enters_of Try.func3 (by kernel_rfl) rfl
theorem en4 : Enters Try.prog 4 := enters_of Try.func4 (by kernel_rfl) rfl
theorem en5 : Enters Try.prog 5 := enters_of Try.func5 (by kernel_rfl) rfl
theorem en6 : Enters Try.prog 6 := enters_of Try.func6 (by kernel_rfl) rfl
theorem en7 : Enters Try.prog 7 := enters_of Try.func7 (by kernel_rfl) rfl
theorem en8 : Enters Try.prog 8 := enters_of Try.func8 (by kernel_rfl) rfl
theorem en9 : Enters Try.prog 9 := enters_of Try.func9 (by kernel_rfl) rfl
theorem en10 : Enters Try.prog 10 := enters_of Try.func10 (by kernel_rfl) rfl
theorem en11 : Enters Try.prog 11 := enters_of Try.func11 (by kernel_rfl) rfl
theorem en12 : Enters Try.prog 12 := enters_of Try.func12 (by kernel_rfl) rfl
theorem en13 : Enters Try.prog 13 := enters_of Try.func13 (by kernel_rfl) rfl
theorem en14 : Enters Try.prog 14 := enters_of Try.func14 (by kernel_rfl) rfl
theorem en15 : Enters Try.prog 15 := enters_of Try.func15 (by kernel_rfl) rfl
theorem en16 : Enters Try.prog 16 := enters_of Try.func16 (by kernel_rfl) rfl
theorem en17 : Enters Try.prog 17 := enters_of Try.func17 (by kernel_rfl) rfl
theorem en18 : Enters Try.prog 18 := enters_of Try.func18 (by kernel_rfl) rfl
theorem en19 : Enters Try.prog 19 := enters_of Try.func19 (by kernel_rfl) rfl
theorem en20 : Enters Try.prog 20 := enters_of Try.func20 (by kernel_rfl) rfl
theorem en21 : Enters Try.prog 21 := enters_of Try.func21 (by kernel_rfl) rfl
theorem en22 : Enters Try.prog 22 := enters_of Try.func22 (by kernel_rfl) rfl
theorem en23 : Enters Try.prog 23 := enters_of Try.func23 (by kernel_rfl) rfl
theorem en24 : Enters Try.prog 24 := enters_of Try.func24 (by kernel_rfl) rfl
theorem en25 : Enters Try.prog 25 := enters_of Try.func25 (by kernel_rfl) rfl
theorem en26 : Enters Try.prog 26 := enters_of Try.func26 (by kernel_rfl) rfl
theorem en27 : Enters Try.prog 27 := enters_of Try.func27 (by kernel_rfl) rfl
theorem en28 : Enters Try.prog 28 := enters_of Try.func28 (by kernel_rfl) rfl
theorem en29 : Enters Try.prog 29 := enters_of Try.func29 (by kernel_rfl) rfl
theorem en30 : Enters Try.prog 30 := enters_of Try.func30 (by kernel_rfl) rfl
theorem en31 : Enters Try.prog 31 := enters_of Try.func31 (by kernel_rfl) rfl
theorem en32 : Enters Try.prog 32 := enters_of Try.func32 (by kernel_rfl) rfl
theorem en33 : Enters Try.prog 33 := enters_of Try.func33 (by kernel_rfl) rfl
theorem en34 : Enters Try.prog 34 := enters_of Try.func34 (by kernel_rfl) rfl
theorem en35 : Enters Try.prog 35 := enters_of Try.func35 (by kernel_rfl) rfl
theorem en36 : Enters Try.prog 36 := enters_of Try.func36 (by kernel_rfl) rfl
theorem en37 : Enters Try.prog 37 := enters_of Try.func37 (by kernel_rfl) rfl
theorem en38 : Enters Try.prog 38 := enters_of Try.func38 (by kernel_rfl) rfl
theorem en39 : Enters Try.prog 39 := enters_of Try.func39 (by kernel_rfl) rfl
theorem en40 : Enters Try.prog 40 := enters_of Try.func40 (by kernel_rfl) rfl
theorem en41 : Enters Try.prog 41 := enters_of Try.func41 (by kernel_rfl) rfl
theorem en42 : Enters Try.prog 42 := enters_of Try.func42 (by kernel_rfl) rfl
theorem en43 : Enters Try.prog 43 := enters_of Try.func43 (by kernel_rfl) rfl
theorem en44 : Enters Try.prog 44 := enters_of Try.func44 (by kernel_rfl) rfl
theorem en45 : Enters Try.prog 45 := enters_of Try.func45 (by kernel_rfl) rfl
theorem en46 : Enters Try.prog 46 := enters_of Try.func46 (by kernel_rfl) rfl
theorem en47 : Enters Try.prog 47 := enters_of Try.func47 (by kernel_rfl) rfl
theorem en48 : Enters Try.prog 48 := enters_of Try.func48 (by kernel_rfl) rfl
theorem en49 : Enters Try.prog 49 := enters_of Try.func49 (by kernel_rfl) rfl
theorem en50 : Enters Try.prog 50 := enters_of Try.func50 (by kernel_rfl) rfl
theorem en51 : Enters Try.prog 51 := enters_of Try.func51 (by kernel_rfl) rfl
theorem en52 : Enters Try.prog 52 := enters_of Try.func52 (by kernel_rfl) rfl
theorem en53 : Enters Try.prog 53 := enters_of Try.func53 (by kernel_rfl) rfl
theorem en54 : Enters Try.prog 54 := enters_of Try.func54 (by kernel_rfl) rfl
theorem en55 : Enters Try.prog 55 := enters_of Try.func55 (by kernel_rfl) rfl
theorem en56 : Enters Try.prog 56 := enters_of Try.func56 (by kernel_rfl) rfl
theorem en57 : Enters Try.prog 57 := enters_of Try.func57 (by kernel_rfl) rfl
theorem en58 : Enters Try.prog 58 := enters_of Try.func58 (by kernel_rfl) rfl
theorem en59 : Enters Try.prog 59 := enters_of Try.func59 (by kernel_rfl) rfl
theorem en60 : Enters Try.prog 60 := enters_of Try.func60 (by kernel_rfl) rfl
theorem en61 : Enters Try.prog 61 := enters_of Try.func61 (by kernel_rfl) rfl
theorem en62 : Enters Try.prog 62 := enters_of Try.func62 (by kernel_rfl) rfl
theorem en63 : Enters Try.prog 63 := enters_of Try.func63 (by kernel_rfl) rfl
theorem en64 : Enters Try.prog 64 := enters_of Try.func64 (by kernel_rfl) rfl
theorem en65 : Enters Try.prog 65 := enters_of Try.func65 (by kernel_rfl) rfl
theorem en66 : Enters Try.prog 66 := enters_of Try.func66 (by kernel_rfl) rfl
theorem en67 : Enters Try.prog 67 := enters_of Try.func67 (by kernel_rfl) rfl
theorem en68 : Enters Try.prog 68 := enters_of Try.func68 (by kernel_rfl) rfl
theorem en69 : Enters Try.prog 69 := enters_of Try.func69 (by kernel_rfl) rfl
theorem en70 : Enters Try.prog 70 := enters_of Try.func70 (by kernel_rfl) rfl
theorem en71 : Enters Try.prog 71 := enters_of Try.func71 (by kernel_rfl) rfl
theorem en72 : Enters Try.prog 72 := enters_of Try.func72 (by kernel_rfl) rfl
theorem en73 : Enters Try.prog 73 := enters_of Try.func73 (by kernel_rfl) rfl
theorem en74 : Enters Try.prog 74 := enters_of Try.func74 (by kernel_rfl) rfl
theorem en75 : Enters Try.prog 75 := enters_of Try.func75 (by kernel_rfl) rfl
theorem en76 : Enters Try.prog 76 := enters_of Try.func76 (by kernel_rfl) rfl
theorem en77 : Enters Try.prog 77 := enters_of Try.func77 (by kernel_rfl) rfl
theorem en78 : Enters Try.prog 78 := enters_of Try.func78 (by kernel_rfl) rfl
theorem en79 : Enters Try.prog 79 := enters_of Try.func79 (by kernel_rfl) rfl
theorem en80 : Enters Try.prog 80 := enters_of Try.func80 (by kernel_rfl) rfl
theorem en81 : Enters Try.prog 81 := enters_of Try.func81 (by kernel_rfl) rfl
theorem en82 : Enters Try.prog 82 := enters_of Try.func82 (by kernel_rfl) rfl
theorem en83 : Enters Try.prog 83 := enters_of Try.func83 (by kernel_rfl) rfl
theorem en84 : Enters Try.prog 84 := enters_of Try.func84 (by kernel_rfl) rfl
theorem en85 : Enters Try.prog 85 := enters_of Try.func85 (by kernel_rfl) rfl
theorem en86 : Enters Try.prog 86 := enters_of Try.func86 (by kernel_rfl) rfl
theorem en87 : Enters Try.prog 87 := enters_of Try.func87 (by kernel_rfl) rfl
theorem en88 : Enters Try.prog 88 := enters_of Try.func88 (by kernel_rfl) rfl
theorem en89 : Enters Try.prog 89 := enters_of Try.func89 (by kernel_rfl) rfl
theorem en90 : Enters Try.prog 90 := enters_of Try.func90 (by kernel_rfl) rfl
theorem en91 : Enters Try.prog 91 := enters_of Try.func91 (by kernel_rfl) rfl
theorem en92 : Enters Try.prog 92 := enters_of Try.func92 (by kernel_rfl) rfl
theorem en93 : Enters Try.prog 93 := enters_of Try.func93 (by kernel_rfl) rfl
theorem en94 : Enters Try.prog 94 := enters_of Try.func94 (by kernel_rfl) rfl
theorem en95 : Enters Try.prog 95 := enters_of Try.func95 (by kernel_rfl) rfl
theorem en96 : Enters Try.prog 96 := enters_of Try.func96 (by kernel_rfl) rfl
theorem en97 : Enters Try.prog 97 := enters_of Try.func97 (by kernel_rfl) rfl
theorem en98 : Enters Try.prog 98 := enters_of Try.func98 (by kernel_rfl) rfl
theorem en99 : Enters Try.prog 99 := enters_of Try.func99 (by kernel_rfl) rfl
theorem en100 : Enters Try.prog 100 := enters_of Try.func100 (by kernel_rfl) rfl
theorem en101 : Enters Try.prog 101 := enters_of Try.func101 (by kernel_rfl) rfl
theorem en102 : Enters Try.prog 102 := enters_of Try.func102 (by kernel_rfl) rfl
theorem en103 : Enters Try.prog 103 := enters_of Try.func103 (by kernel_rfl) rfl
theorem en104 : Enters Try.prog 104 := enters_of Try.func104 (by kernel_rfl) rfl
theorem en105 : Enters Try.prog 105 := enters_of Try.func105 (by kernel_rfl) rfl
theorem en106 : Enters Try.prog 106 := enters_of Try.func106 (by kernel_rfl) rfl
theorem en107 : Enters Try.prog 107 := enters_of Try.func107 (by kernel_rfl) rfl
theorem en108 : Enters Try.prog 108 := enters_of Try.func108 (by kernel_rfl) rfl
theorem en109 : Enters Try.prog 109 := enters_of Try.func109 (by kernel_rfl) rfl
theorem en110 : Enters Try.prog 110 := enters_of Try.func110 (by kernel_rfl) rfl
theorem en111 : Enters Try.prog 111 := enters_of Try.func111 (by kernel_rfl) rfl
theorem en112 : Enters Try.prog 112 := enters_of Try.func112 (by kernel_rfl) rfl
theorem en113 : Enters Try.prog 113 := enters_of Try.func113 (by kernel_rfl) rfl
theorem en114 : Enters Try.prog 114 := enters_of Try.func114 (by kernel_rfl) rfl
theorem en115 : Enters Try.prog 115 := enters_of Try.func115 (by kernel_rfl) rfl
theorem en116 : Enters Try.prog 116 := enters_of Try.func116 (by kernel_rfl) rfl
theorem en117 : Enters Try.prog 117 := enters_of Try.func117 (by kernel_rfl) rfl
theorem en118 : Enters Try.prog 118 := enters_of Try.func118 (by kernel_rfl) rfl
theorem en119 : Enters Try.prog 119 := enters_of Try.func119 (by kernel_rfl) rfl
theorem en120 : Enters Try.prog 120 := enters_of Try.func120 (by kernel_rfl) rfl
theorem en121 : Enters Try.prog 121 := enters_of Try.func121 (by kernel_rfl) rfl
theorem en122 : Enters Try.prog 122 := enters_of Try.func122 (by kernel_rfl) rfl
theorem en123 : Enters Try.prog 123 := enters_of Try.func123 (by kernel_rfl) rfl
theorem en124 : Enters Try.prog 124 := enters_of Try.func124 (by kernel_rfl) rfl
theorem en125 : Enters Try.prog 125 := enters_of Try.func125 (by kernel_rfl) rfl
theorem en126 : Enters Try.prog 126 := enters_of Try.func126 (by kernel_rfl) rfl
theorem en127 : Enters Try.prog 127 := enters_of Try.func127 (by kernel_rfl) rfl
theorem en128 : Enters Try.prog 128 := enters_of Try.func128 (by kernel_rfl) rfl
theorem en129 : Enters Try.prog 129 := enters_of Try.func129 (by kernel_rfl) rfl
theorem en130 : Enters Try.prog 130 := enters_of Try.func130 (by kernel_rfl) rfl
theorem en131 : Enters Try.prog 131 := enters_of Try.func131 (by kernel_rfl) rfl
theorem en132 : Enters Try.prog 132 := enters_of Try.func132 (by kernel_rfl) rfl
theorem en133 : Enters Try.prog 133 := enters_of Try.func133 (by kernel_rfl) rfl
theorem en134 : Enters Try.prog 134 := enters_of Try.func134 (by kernel_rfl) rfl
theorem en135 : Enters Try.prog 135 := enters_of Try.func135 (by kernel_rfl) rfl
theorem en136 : Enters Try.prog 136 := enters_of Try.func136 (by kernel_rfl) rfl
theorem en137 : Enters Try.prog 137 := enters_of Try.func137 (by kernel_rfl) rfl
theorem en138 : Enters Try.prog 138 := enters_of Try.func138 (by kernel_rfl) rfl
theorem en139 : Enters Try.prog 139 := enters_of Try.func139 (by kernel_rfl) rfl
theorem en140 : Enters Try.prog 140 := enters_of Try.func140 (by kernel_rfl) rfl
theorem en141 : Enters Try.prog 141 := enters_of Try.func141 (by kernel_rfl) rfl
theorem en142 : Enters Try.prog 142 := enters_of Try.func142 (by kernel_rfl) rfl
theorem en143 : Enters Try.prog 143 := enters_of Try.func143 (by kernel_rfl) rfl
theorem en144 : Enters Try.prog 144 := enters_of Try.func144 (by kernel_rfl) rfl
theorem en145 : Enters Try.prog 145 := enters_of Try.func145 (by kernel_rfl) rfl
theorem en146 : Enters Try.prog 146 := enters_of Try.func146 (by kernel_rfl) rfl
theorem en147 : Enters Try.prog 147 := enters_of Try.func147 (by kernel_rfl) rfl
theorem en148 : Enters Try.prog 148 := enters_of Try.func148 (by kernel_rfl) rfl
theorem en149 : Enters Try.prog 149 := enters_of Try.func149 (by kernel_rfl) rfl
theorem en150 : Enters Try.prog 150 := enters_of Try.func150 (by kernel_rfl) rfl
theorem en151 : Enters Try.prog 151 := enters_of Try.func151 (by kernel_rfl) rfl
theorem en152 : Enters Try.prog 152 := enters_of Try.func152 (by kernel_rfl) rfl
theorem en153 : Enters Try.prog 153 := enters_of Try.func153 (by kernel_rfl) rfl
theorem en154 : Enters Try.prog 154 := enters_of Try.func154 (by kernel_rfl) rfl
theorem en155 : Enters Try.prog 155 := enters_of Try.func155 (by kernel_rfl) rfl
theorem en156 : Enters Try.prog 156 := enters_of Try.func156 (by kernel_rfl) rfl
theorem en157 : Enters Try.prog 157 := enters_of Try.func157 (by kernel_rfl) rfl
theorem en158 : Enters Try.prog 158 := enters_of Try.func158 (by kernel_rfl) rfl
theorem en159 : Enters Try.prog 159 := enters_of Try.func159 (by kernel_rfl) rfl
theorem en160 : Enters Try.prog 160 := enters_of Try.func160 (by kernel_rfl) rfl
theorem en161 : Enters Try.prog 161 := enters_of Try.func161 (by kernel_rfl) rfl
theorem en162 : Enters Try.prog 162 := enters_of Try.func162 (by kernel_rfl) rfl
theorem tyZE35 : ∀ i, Try.prog.info? 3 = some i → i.zero = some (z3) := fun i hi => by
  have h : (Try.prog.info? 3).map (·.zero) = some (some (z3)) := by kernel_rfl
  rw [hi] at h
  simpa using h
theorem tyE35 : TyE Try.prog 35 3 1 8 := ⟨by kernel_rfl, ⟨(Try.prog.info? 3).get (by kernel_rfl), z3, by kernel_rfl, by kernel_rfl, by kernel_rfl, by kernel_rfl, by kernel_rfl⟩, by decide⟩
theorem tyK36 : TyK Try.prog 36 5 := ⟨by kernel_rfl, by kernel_rfl, ⟨(Try.prog.info? 5).get (by kernel_rfl), by kernel_rfl⟩, by kernel_rfl, fun _ => by kernel_rfl, by kernel_rfl⟩
theorem tyK37 : TyK Try.prog 37 5 := ⟨by kernel_rfl, by kernel_rfl, ⟨(Try.prog.info? 5).get (by kernel_rfl), by kernel_rfl⟩, by kernel_rfl, fun _ => by kernel_rfl, by kernel_rfl⟩
theorem tyZE40 : ∀ i, Try.prog.info? 112 = some i → i.zero = some (.agg z112.toArray) := fun i hi => by
  have h : (Try.prog.info? 112).map (·.zero) = some (some (.agg z112.toArray)) := by kernel_rfl
  rw [hi] at h
  simpa using h
theorem tyE40 : TyE Try.prog 40 112 2 16 := ⟨by kernel_rfl, ⟨(Try.prog.info? 112).get (by kernel_rfl), .agg z112.toArray, by kernel_rfl, by kernel_rfl, by kernel_rfl, by kernel_rfl, by kernel_rfl⟩, by decide⟩
theorem tyZE50 : ∀ i, Try.prog.info? 99 = some i → i.zero = some (.agg z99.toArray) := fun i hi => by
  have h : (Try.prog.info? 99).map (·.zero) = some (some (.agg z99.toArray)) := by kernel_rfl
  rw [hi] at h
  simpa using h
theorem tyE50 : TyE Try.prog 50 99 2 48 := ⟨by kernel_rfl, ⟨(Try.prog.info? 99).get (by kernel_rfl), .agg z99.toArray, by kernel_rfl, by kernel_rfl, by kernel_rfl, by kernel_rfl, by kernel_rfl⟩, by decide⟩
theorem tyZE69 : ∀ i, Try.prog.info? 35 = some i → i.zero = some (z35) := fun i hi => by
  have h : (Try.prog.info? 35).map (·.zero) = some (some (z35)) := by kernel_rfl
  rw [hi] at h
  simpa using h
theorem tyE69 : TyE Try.prog 69 35 1 24 := ⟨by kernel_rfl, ⟨(Try.prog.info? 35).get (by kernel_rfl), z35, by kernel_rfl, by kernel_rfl, by kernel_rfl, by kernel_rfl, by kernel_rfl⟩, by decide⟩
theorem tyZE72 : ∀ i, Try.prog.info? 116 = some i → i.zero = some (.agg z116.toArray) := fun i hi => by
  have h : (Try.prog.info? 116).map (·.zero) = some (some (.agg z116.toArray)) := by kernel_rfl
  rw [hi] at h
  simpa using h
theorem tyE72 : TyE Try.prog 72 116 18 32 := ⟨by kernel_rfl, ⟨(Try.prog.info? 116).get (by kernel_rfl), .agg z116.toArray, by kernel_rfl, by kernel_rfl, by kernel_rfl, by kernel_rfl, by kernel_rfl⟩, by decide⟩
theorem tyZE73 : ∀ i, Try.prog.info? 122 = some i → i.zero = some (.agg z122.toArray) := fun i hi => by
  have h : (Try.prog.info? 122).map (·.zero) = some (some (.agg z122.toArray)) := by kernel_rfl
  rw [hi] at h
  simpa using h
theorem tyE73 : TyE Try.prog 73 122 2 16 := ⟨by kernel_rfl, ⟨(Try.prog.info? 122).get (by kernel_rfl), .agg z122.toArray, by kernel_rfl, by kernel_rfl, by kernel_rfl, by kernel_rfl, by kernel_rfl⟩, by decide⟩
theorem tyZE92 : ∀ i, Try.prog.info? 4 = some i → i.zero = some (z4) := fun i hi => by
  have h : (Try.prog.info? 4).map (·.zero) = some (some (z4)) := by kernel_rfl
  rw [hi] at h
  simpa using h
theorem tyE92 : TyE Try.prog 92 4 1 1 := ⟨by kernel_rfl, ⟨(Try.prog.info? 4).get (by kernel_rfl), z4, by kernel_rfl, by kernel_rfl, by kernel_rfl, by kernel_rfl, by kernel_rfl⟩, by decide⟩
theorem tyZE159 : ∀ i, Try.prog.info? 22 = some i → i.zero = some (z22) := fun i hi => by
  have h : (Try.prog.info? 22).map (·.zero) = some (some (z22)) := by kernel_rfl
  rw [hi] at h
  simpa using h
theorem tyE159 : TyE Try.prog 159 22 1 8 := ⟨by kernel_rfl, ⟨(Try.prog.info? 22).get (by kernel_rfl), z22, by kernel_rfl, by kernel_rfl, by kernel_rfl, by kernel_rfl, by kernel_rfl⟩, by decide⟩
theorem tyZE172 : ∀ i, Try.prog.info? 5 = some i → i.zero = some (z5) := fun i hi => by
  have h : (Try.prog.info? 5).map (·.zero) = some (some (z5)) := by kernel_rfl
  rw [hi] at h
  simpa using h
theorem tyE172 : TyE Try.prog 172 5 1 1 := ⟨by kernel_rfl, ⟨(Try.prog.info? 5).get (by kernel_rfl), z5, by kernel_rfl, by kernel_rfl, by kernel_rfl, by kernel_rfl, by kernel_rfl⟩, by decide⟩
theorem bld39_  : ∀ w, (Instr.build 39 [].toArray).run Try.prog w = .ok (.agg [.int .u8 0, .int .i64 0, .int .i64 0, .int .u64 0, .int .u64 0, .int .u64 0, .slice none 0 0, .int .u8 0, .int .i64 0, .int .i64 0, .int .u8 0, .int .u8 0, .int .u8 0, .int .u8 0, .int .u8 0, .int .u8 0, .int .u8 0, .int .u8 0, .int .u8 0, .int .u8 0, .int .u8 0, .int .u8 0, .int .u8 0, .int .u8 0, .int .u8 0, .int .u8 0, .int .i64 0, .int .i64 0].toArray) w := fun _ => by kernel_rfl
theorem bld99_0_1 (x0 : Option Addr) (n0 c0 : Nat) (x1 : Option Addr) (n1 c1 : Nat) : ∀ w, (Instr.build 99 [(0, .slice x0 n0 c0), (1, .slice x1 n1 c1)].toArray).run Try.prog w = .ok (.agg [.slice x0 n0 c0, .slice x1 n1 c1].toArray) w := fun _ => by kernel_rfl
theorem bld52_0_1_2_3_4 (x0 : Int) (x1 : Option Addr) (n1 c1 : Nat) (x2 : Option Addr) (n2 c2 : Nat) (x3 : Option Addr) (n3 c3 : Nat) (x4 : Int) : ∀ w, (Instr.build 52 [(0, .int .i64 x0), (1, .slice x1 n1 c1), (2, .slice x2 n2 c2), (3, .slice x3 n3 c3), (4, .int .i64 x4)].toArray).run Try.prog w = .ok (.agg [.int .i64 x0, .slice x1 n1 c1, .slice x2 n2 c2, .slice x3 n3 c3, .int .i64 x4].toArray) w := fun _ => by kernel_rfl
theorem bld52_  : ∀ w, (Instr.build 52 [].toArray).run Try.prog w = .ok (.agg [.int .i64 0, .slice none 0 0, .slice none 0 0, .slice none 0 0, .int .i64 0].toArray) w := fun _ => by kernel_rfl
theorem bld52_0 (x0 : Int) : ∀ w, (Instr.build 52 [(0, .int .i64 x0)].toArray).run Try.prog w = .ok (.agg [.int .i64 x0, .slice none 0 0, .slice none 0 0, .slice none 0 0, .int .i64 0].toArray) w := fun _ => by kernel_rfl
theorem bld52_0_4_3_2 (x0 : Int) (x1 : Int) (x2 : Option Addr) (n2 c2 : Nat) (x3 : Option Addr) (n3 c3 : Nat) : ∀ w, (Instr.build 52 [(0, .int .i64 x0), (4, .int .i64 x1), (3, .slice x2 n2 c2), (2, .slice x3 n3 c3)].toArray).run Try.prog w = .ok (.agg [.int .i64 x0, .slice none 0 0, .slice x3 n3 c3, .slice x2 n2 c2, .int .i64 x1].toArray) w := fun _ => by kernel_rfl
theorem bld99_  : ∀ w, (Instr.build 99 [].toArray).run Try.prog w = .ok (.agg [.slice none 0 0, .slice none 0 0].toArray) w := fun _ => by kernel_rfl
theorem bld75_  : ∀ w, (Instr.build 75 [].toArray).run Try.prog w = .ok (.agg [.slice none 0 0, .int .u64 0, .slice none 0 0, .int .u8 0, .int .u8 0, .int .u8 0, .int .u8 0, .int .u8 0, .int .u8 0, .int .u8 0, .int .u8 0, .int .u8 0, .int .u8 0, .int .u8 0, .int .u8 0, .int .u8 0, .int .u8 0, .int .u8 0, .int .u8 0, .int .u8 0, .int .u8 0, .int .u8 0, .int .u8 0, .int .u8 0, .int .u8 0, .int .u8 0, .int .u8 0, .int .u8 0, .int .u8 0, .int .u8 0, .int .u8 0, .int .u8 0, .int .u8 0, .int .u8 0, .int .u8 0].toArray) w := fun _ => by kernel_rfl
theorem bld37_ : ∀ w, (Instr.build 37 [].toArray).run Try.prog w = .ok (.agg z37.toArray) w := fun _ => by kernel_rfl
theorem bld26_0_1 (x0 : Int) (x1 : Int) : ∀ w, (Instr.build 26 [(0, .int .u8 x0), (1, .int .i64 x1)].toArray).run Try.prog w = .ok (.agg [.int .u8 x0, .int .i64 x1, .int .i64 0, .int .u64 0, .int .u64 0, .int .u64 0].toArray) w := fun _ => by kernel_rfl
theorem bld124_  : ∀ w, (Instr.build 124 [].toArray).run Try.prog w = .ok (.agg [.int .u8 0, .int .i64 0, .int .i64 0].toArray) w := fun _ => by kernel_rfl
theorem bld124_0_1_2 (x0 : Int) (x1 : Int) (x2 : Int) : ∀ w, (Instr.build 124 [(0, .int .u8 x0), (1, .int .i64 x1), (2, .int .i64 x2)].toArray).run Try.prog w = .ok (.agg [.int .u8 x0, .int .i64 x1, .int .i64 x2].toArray) w := fun _ => by kernel_rfl
theorem bld24_  : ∀ w, (Instr.build 24 [].toArray).run Try.prog w = .ok (.agg [.int .u64 0, .int .u64 0, .int .u64 0].toArray) w := fun _ => by kernel_rfl
theorem bld149_0_1 (x0 : Int) (x1 : Int) : ∀ w, (Instr.build 149 [(0, .int .u64 x0), (1, .int .u64 x1)].toArray).run Try.prog w = .ok (.agg [.int .u64 x0, .int .u64 x1].toArray) w := fun _ => by kernel_rfl
theorem bld112_0 (x0 : Int) : ∀ w, (Instr.build 112 [(0, .int .i64 x0)].toArray).run Try.prog w = .ok (.agg [.int .i64 x0, .int .i64 0].toArray) w := fun _ => by kernel_rfl
theorem bld112_0_1 (x0 : Int) (x1 : Int) : ∀ w, (Instr.build 112 [(0, .int .i64 x0), (1, .int .i64 x1)].toArray).run Try.prog w = .ok (.agg [.int .i64 x0, .int .i64 x1].toArray) w := fun _ => by kernel_rfl
theorem bsl35_0_  : ∀ w, (Instr.buildSlice 35 0 [].toArray).run Try.prog w = .ok (.slice (some ⟨w.heap.size, 0, none⟩) 0 0) (w.alloc (.cells [].toArray 3)) := fun _ => by kernel_rfl
theorem bsl50_1_0 (x0 : Option Addr) (x1 x2 : Nat) (x3 : Option Addr) (x4 x5 : Nat) : ∀ w, (Instr.buildSlice 50 1 [(0, .agg [.slice x0 x1 x2, .slice x3 x4 x5].toArray)].toArray).run Try.prog w = .ok (.slice (some ⟨w.heap.size, 0, none⟩) 1 1) (w.alloc (.cells [.slice x0 x1 x2, .slice x3 x4 x5].toArray 99)) := fun _ => by kernel_rfl
theorem bsl35_1_0 (x0 : Int) : ∀ w, (Instr.buildSlice 35 1 [(0, .int .i64 x0)].toArray).run Try.prog w = .ok (.slice (some ⟨w.heap.size, 0, none⟩) 1 1) (w.alloc (.cells [.int .i64 x0].toArray 3)) := fun _ => by kernel_rfl
theorem bsl69_2_0_1 (x0 : Option Addr) (x1 x2 : Nat) (x3 : Option Addr) (x4 x5 : Nat) : ∀ w, (Instr.buildSlice 69 2 [(0, .slice x0 x1 x2), (1, .slice x3 x4 x5)].toArray).run Try.prog w = .ok (.slice (some ⟨w.heap.size, 0, none⟩) 2 2) (w.alloc (.cells [.slice x0 x1 x2, .slice x3 x4 x5].toArray 35)) := fun _ => by kernel_rfl
theorem bsl69_1_0 (x0 : Option Addr) (x1 x2 : Nat) : ∀ w, (Instr.buildSlice 69 1 [(0, .slice x0 x1 x2)].toArray).run Try.prog w = .ok (.slice (some ⟨w.heap.size, 0, none⟩) 1 1) (w.alloc (.cells [.slice x0 x1 x2].toArray 35)) := fun _ => by kernel_rfl
theorem bsl92_1_0 (x0 : Bool) : ∀ w, (Instr.buildSlice 92 1 [(0, .bool x0)].toArray).run Try.prog w = .ok (.slice (some ⟨w.heap.size, 0, none⟩) 1 1) (w.alloc (.cells [.bool x0].toArray 4)) := fun _ => by kernel_rfl
theorem bsl72_1_0 (x0 : Int) (x1 : Int) (x2 : Int) (x3 : Int) (x4 : Int) (x5 : Int) (x6 : Int) (x7 : Int) (x8 : Int) (x9 : Int) (x10 : Int) (x11 : Int) (x12 : Int) (x13 : Int) (x14 : Int) (x15 : Int) (x16 : Int) (x17 : Int) : ∀ w, (Instr.buildSlice 72 1 [(0, .agg [.int .i64 x0, .int .i64 x1, .int .u8 x2, .int .u8 x3, .int .u8 x4, .int .u8 x5, .int .u8 x6, .int .u8 x7, .int .u8 x8, .int .u8 x9, .int .u8 x10, .int .u8 x11, .int .u8 x12, .int .u8 x13, .int .u8 x14, .int .u8 x15, .int .u8 x16, .int .u8 x17].toArray)].toArray).run Try.prog w = .ok (.slice (some ⟨w.heap.size, 0, none⟩) 1 1) (w.alloc (.cells [.int .i64 x0, .int .i64 x1, .int .u8 x2, .int .u8 x3, .int .u8 x4, .int .u8 x5, .int .u8 x6, .int .u8 x7, .int .u8 x8, .int .u8 x9, .int .u8 x10, .int .u8 x11, .int .u8 x12, .int .u8 x13, .int .u8 x14, .int .u8 x15, .int .u8 x16, .int .u8 x17].toArray 116)) := fun _ => by kernel_rfl
theorem bsl40_1_0 (x0 : Int) (x1 : Int) : ∀ w, (Instr.buildSlice 40 1 [(0, .agg [.int .i64 x0, .int .i64 x1].toArray)].toArray).run Try.prog w = .ok (.slice (some ⟨w.heap.size, 0, none⟩) 1 1) (w.alloc (.cells [.int .i64 x0, .int .i64 x1].toArray 112)) := fun _ => by kernel_rfl
theorem bsl159_1_0 (x0 : Int) : ∀ w, (Instr.buildSlice 159 1 [(0, .int .u64 x0)].toArray).run Try.prog w = .ok (.slice (some ⟨w.heap.size, 0, none⟩) 1 1) (w.alloc (.cells [.int .u64 x0].toArray 22)) := fun _ => by kernel_rfl
theorem bsl172_1_0 (x0 : Int) : ∀ w, (Instr.buildSlice 172 1 [(0, .int .u8 x0)].toArray).run Try.prog w = .ok (.slice (some ⟨w.heap.size, 0, none⟩) 1 1) (w.alloc (.cells [.int .u8 x0].toArray 5)) := fun _ => by kernel_rfl
theorem gd24 : Try.prog.eqGuardType Try.prog.depth 24 = false := by kernel_rfl
theorem eqS24 (x0 y0 : Int) (x1 y1 : Int) (x2 y2 : Int) : EqV Try.prog 10000 24 (.agg (([.int .u64 x0, .int .u64 x1, .int .u64 x2] : List Value)).toArray) (.agg (([.int .u64 y0, .int .u64 y1, .int .u64 y2] : List Value)).toArray) (decide (x0 = y0 ∧ x1 = y1 ∧ x2 = y2)) :=
  EqV.cast (EqV.struct (bs := [decide (x0 = y0), decide (x1 = y1), decide (x2 = y2)]) Try.underlying24 (by kernel_rfl) ⟨by decide, ⟨_, _, part_cell tyC22 (by rfl), part_cell tyC22 (by rfl), EqV.int Try.underlying22 x0 y0⟩, ⟨by decide, ⟨_, _, part_cell tyC22 (by rfl), part_cell tyC22 (by rfl), EqV.int Try.underlying22 x1 y1⟩, ⟨by decide, ⟨_, _, part_cell tyC22 (by rfl), part_cell tyC22 (by rfl), EqV.int Try.underlying22 x2 y2⟩, trivial⟩⟩⟩) (by simp only [List.all_cons, List.all_nil, id, Bool.and_true, Bool.decide_and])
theorem gd26 : Try.prog.eqGuardType Try.prog.depth 26 = false := by kernel_rfl
theorem eqS26 (x0 y0 : Int) (x1 y1 : Int) (x2 y2 : Int) (x3 y3 : Int) (x4 y4 : Int) (x5 y5 : Int) : EqV Try.prog 10000 26 (.agg (([.int .u8 x0, .int .i64 x1, .int .i64 x2, .int .u64 x3, .int .u64 x4, .int .u64 x5] : List Value)).toArray) (.agg (([.int .u8 y0, .int .i64 y1, .int .i64 y2, .int .u64 y3, .int .u64 y4, .int .u64 y5] : List Value)).toArray) (decide (x0 = y0 ∧ x1 = y1 ∧ x2 = y2 ∧ x3 = y3 ∧ x4 = y4 ∧ x5 = y5)) :=
  EqV.cast (EqV.struct (bs := [decide (x0 = y0), decide (x1 = y1), decide (x2 = y2), decide (x3 = y3 ∧ x4 = y4 ∧ x5 = y5)]) Try.underlying26 (by kernel_rfl) ⟨by decide, ⟨_, _, part_cell tyC5 (by rfl), part_cell tyC5 (by rfl), EqV.int Try.underlying5 x0 y0⟩, ⟨by decide, ⟨_, _, part_cell tyC3 (by rfl), part_cell tyC3 (by rfl), EqV.int Try.underlying3 x1 y1⟩, ⟨by decide, ⟨_, _, part_cell tyC3 (by rfl), part_cell tyC3 (by rfl), EqV.int Try.underlying3 x2 y2⟩, ⟨by decide, ⟨_, _, part_agg tyA24 (by rfl), part_agg tyA24 (by rfl), EqV.cast (EqV.struct (bs := [decide (x3 = y3), decide (x4 = y4), decide (x5 = y5)]) Try.underlying24 (by kernel_rfl) ⟨by decide, ⟨_, _, part_cell tyC22 (by rfl), part_cell tyC22 (by rfl), EqV.int Try.underlying22 x3 y3⟩, ⟨by decide, ⟨_, _, part_cell tyC22 (by rfl), part_cell tyC22 (by rfl), EqV.int Try.underlying22 x4 y4⟩, ⟨by decide, ⟨_, _, part_cell tyC22 (by rfl), part_cell tyC22 (by rfl), EqV.int Try.underlying22 x5 y5⟩, trivial⟩⟩⟩) (by simp only [List.all_cons, List.all_nil, id, Bool.and_true, Bool.decide_and])⟩, trivial⟩⟩⟩⟩) (by simp only [List.all_cons, List.all_nil, id, Bool.and_true, Bool.decide_and])
theorem gd116 : Try.prog.eqGuardType Try.prog.depth 116 = false := by kernel_rfl
theorem eqS116 (x0 y0 : Int) (x1 y1 : Int) (x2 y2 : Kw) : EqV Try.prog 10000 116 (.agg (([.int .i64 x0, .int .i64 x1] : List Value) ++ kc x2).toArray) (.agg (([.int .i64 y0, .int .i64 y1] : List Value) ++ kc y2).toArray) (decide ((x0 = y0 ∧ x1 = y1) ∧ x2 = y2)) :=
  EqV.cast (EqV.struct (bs := [decide ((x0 = y0 ∧ x1 = y1)), decide (x2 = y2)]) Try.underlying116 (by kernel_rfl) ⟨by decide, ⟨_, _, part_agg tyA112 (by rfl), part_agg tyA112 (by rfl), EqV.cast (EqV.struct (bs := [decide (x0 = y0), decide (x1 = y1)]) Try.underlying112 (by kernel_rfl) ⟨by decide, ⟨_, _, part_cell tyC3 (by rfl), part_cell tyC3 (by rfl), EqV.int Try.underlying3 x0 y0⟩, ⟨by decide, ⟨_, _, part_cell tyC3 (by rfl), part_cell tyC3 (by rfl), EqV.int Try.underlying3 x1 y1⟩, trivial⟩⟩) (by simp only [List.all_cons, List.all_nil, id, Bool.and_true, Bool.decide_and])⟩, ⟨by decide, ⟨_, _, part_agg tyA37 (by rfl), part_agg tyA37 (by rfl), EqV.key tyK37 x2 y2⟩, trivial⟩⟩) (by simp only [List.all_cons, List.all_nil, id, Bool.and_true, Bool.decide_and])
theorem gd122 : Try.prog.eqGuardType Try.prog.depth 122 = false := by kernel_rfl
theorem eqS122 (x0 y0 : Int) (x1 y1 : Int) : EqV Try.prog 10000 122 (.agg (([.int .u64 x0, .int .u64 x1] : List Value)).toArray) (.agg (([.int .u64 y0, .int .u64 y1] : List Value)).toArray) (decide (x0 = y0 ∧ x1 = y1)) :=
  EqV.cast (EqV.struct (bs := [decide (x0 = y0), decide (x1 = y1)]) Try.underlying122 (by kernel_rfl) ⟨by decide, ⟨_, _, part_cell tyC22 (by rfl), part_cell tyC22 (by rfl), EqV.int Try.underlying22 x0 y0⟩, ⟨by decide, ⟨_, _, part_cell tyC22 (by rfl), part_cell tyC22 (by rfl), EqV.int Try.underlying22 x1 y1⟩, trivial⟩⟩) (by simp only [List.all_cons, List.all_nil, id, Bool.and_true, Bool.decide_and])
end Go.Proofs.Ytoegpalacppllaa
