/- Ab, part 14: short names, and what the walk rewrites by. -/
import Derived.Test.YtamielbdedbnaaaA13
set_option linter.unusedSimpArgs false
set_option linter.unusedVariables false
namespace Go.Ab
open Go.RowKit
abbrev i64 (n : Int) : AV := .sc (.int .i64 n)
abbrev bl (b : Bool) : AV := .sc (.bool b)
abbrev str (s : ByteArray) : AV := .sc (.string s)
theorem thenA_normal (K : Env → St → Prop) (Q : Exit → Env → St → Prop) (e : Env) (σ : St) : thenA K Q .normal e σ = K e σ := rfl
theorem thenA_ret (K : Env → St → Prop) (Q : Exit → Env → St → Prop) (e : Env) (σ : St) : thenA K Q .ret e σ = Q .ret e σ := rfl
theorem thenA_exit (K : Env → St → Prop) (Q : Exit → Env → St → Prop) (id : Nat) (e : Env) (σ : St) : thenA K Q (.exit id) e σ = Q (.exit id) e σ := rfl
theorem inBlockA_normal (id : Nat) (Q : Exit → Env → St → Prop) (e : Env) (σ : St) : inBlockA id Q .normal e σ = Q .normal e σ := rfl
theorem inBlockA_ret (id : Nat) (Q : Exit → Env → St → Prop) (e : Env) (σ : St) : inBlockA id Q .ret e σ = Q .ret e σ := rfl
theorem inBlockA_exit (id id' : Nat) (Q : Exit → Env → St → Prop) (e : Env) (σ : St) : inBlockA id Q (.exit id') e σ = if id' = id then Q .normal e σ else Q (.exit id') e σ := rfl
theorem ends_ret (T : Tab) (rs : List ResultVar) (Q : AV → St → Prop) (e : Env) (σ : St) : Ends T rs Q .ret e σ = aRes T e σ rs fun r => Q r σ := rfl
theorem ends_normal (T : Tab) (rs : List ResultVar) (Q : AV → St → Prop) (e : Env) (σ : St) : Ends T rs Q .normal e σ = aRes T e σ rs fun r => Q r σ := rfl
attribute [go_sem] List.set_cons_zero List.set_cons_succ aOp ev cv cv1 Env.put Env.upd env0 aIBin aSBin aBin aCall aCallV aUn aFieldAddr aIndexAddr aIndex aField aPart aExtract aSlice optI aConv aMM aNil aBuild fillA seqParts aElems AV.put mkV AV.cells
  aRes aRes1 aRess thenA_normal thenA_ret thenA_exit inBlockA_normal inBlockA_ret inBlockA_exit ends_ret ends_normal Tab.sl Tab.ar Tab.ty Tab.fld TK.agg mdOf
  Nat.reduceEqDiff Nat.reduceBEq Option.map_none Option.map_some List.getD_cons_zero List.getD_cons_succ List.getD_nil true_and and_true List.nil_append List.append_nil List.cons_append List.map_cons List.map_nil List.drop_zero List.drop_succ_cons List.drop_nil
  List.take_succ_cons List.take_zero List.take_nil List.length_cons List.length_nil Nat.reduceAdd Nat.reduceMul Nat.reduceLeDiff Nat.lt_add_one List.all_cons List.all_nil Bool.and_self Bool.and_true Bool.true_and Int.reduceLE Int.reduceLT Int.reduceToNat Int.reduceEq
  List.getElem?_cons_zero List.getElem?_cons_succ Option.some.injEq exists_eq_left' exists_eq_left List.headD_cons Nat.reduceLT Nat.reduceLeDiff ne_eq not_false_eq_true Bool.false_eq_true Option.isSome_some Option.isSome_none beq_self_eq_true decide_true decide_false reduceCtorEq Nat.add_zero Nat.zero_add
end Go.Ab
