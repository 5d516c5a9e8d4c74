/- Functions beside the code, printed by a program of the author. -/
import Derived.Test.YtpcgfeckokgbfaaGreatDoorJs
import Derived.Test.YtpcgfeckokgbfaaGreatDoorChecked
import Derived.Test.YtpcgfeckokgbfaaGreatDoorK5
set_option linter.all false
set_option maxRecDepth 100000
set_option maxHeartbeats 4000000
namespace Go.Proofs.YtpcgfeckokgbfaaGreatDoor
open Go Go.Mi Go.RowKit Go.Dp
@[ext] structure ApiChoice where
  name : ByteArray
  lo : Int
  hi : Int
deriving DecidableEq
def eApiChoice (x : ApiChoice) : List P := [pS x.name, pI x.lo, pI x.hi]
@[ext] structure ApiOp where
  code : Int
  a : Int
  b : Int
  c : Int
  n : Int
deriving DecidableEq
def eApiOp (x : ApiOp) : List P := [p8 x.code, pI x.a, pI x.b, pI x.c, pI x.n]
@[ext] structure ApiCore where
  choices : List ApiChoice
  ops : List ApiOp
  roots : List Int
deriving DecidableEq
def eApiCore (x : ApiCore) : List P := [sl 3 eApiChoice x.choices, sl 5 eApiOp x.ops, sl 1 eI x.roots]
@[ext] structure ApiValue where
  fault : Int
  n : Int
deriving DecidableEq
def eApiValue (x : ApiValue) : List P := [p8 x.fault, pI x.n]
@[ext] structure Anon92 where
  a0 : Int
  a1 : Int
  a2 : Int
  a3 : Int
deriving DecidableEq
def eAnon92 (x : Anon92) : List P := [p8 x.a0, p8 x.a1, p8 x.a2, p8 x.a3]
@[ext] structure ApiTemplate where
  name : ByteArray
  params : Int
  core : ApiCore
deriving DecidableEq
def eApiTemplate (x : ApiTemplate) : List P := [pS x.name, pI x.params, sl 3 eApiChoice x.core.choices, sl 5 eApiOp x.core.ops, sl 1 eI x.core.roots]
@[ext] structure Anon93 where
  a0 : Int
  a1 : Int
  a2 : Int
deriving DecidableEq
def eAnon93 (x : Anon93) : List P := [pI x.a0, pI x.a1, pI x.a2]
@[ext] structure Anon51 where
  a0 : Int
  a1 : Int
  a2 : Int
deriving DecidableEq
def eAnon51 (x : Anon51) : List P := [p8 x.a0, p8 x.a1, p8 x.a2]
def vF160 : Nat → V
  | 0 => .p (.v .nilFunc)
  | 1 => .p (.v (.func (.func 136) #[] #[]))
  | 2 => .p (.v (.func (.func 137) #[] #[]))
  | _ => .p (.v (.func (.func 0) #[] #[]))
theorem vFren160 (z : Nat) (s : Nat → Nat) : (vF160 z).ren s = vF160 z := by unfold vF160; split <;> rfl
theorem isF160 (z : Nat) : (decide (z = 0) = true ∧ vF160 z = .p (.v .nilFunc)) ∨ (decide (z = 0) = false ∧ (vF160 z).isFn = true) := by
  by_cases e : z = 0
  · subst e; exact .inl ⟨rfl, rfl⟩
  · refine .inr ⟨by simp [e], ?_⟩
    unfold vF160; split <;> first | rfl | (exact absurd rfl e)
def vF167 : Nat → V
  | 0 => .p (.v .nilFunc)
  | 1 => .p (.v (.func (.func 143) #[] #[]))
  | 2 => .p (.v (.func (.func 144) #[] #[]))
  | 3 => .p (.v (.func (.func 145) #[] #[]))
  | 4 => .fn (.func 189) [] [.el [.v (.func (.func 147) #[] #[])]]
  | 5 => .fn (.func 189) [] [.el [.v (.func (.func 148) #[] #[])]]
  | 6 => .fn (.func 191) [] [.el [.v (.func (.func 150) #[] #[])]]
  | 7 => .fn (.func 191) [] [.el [.v (.func (.func 151) #[] #[])]]
  | 8 => .fn (.func 191) [] [.el [.v (.func (.func 152) #[] #[])]]
  | _ => .p (.v (.func (.func 0) #[] #[]))
theorem vFlt167 (z k : Nat) : (vF167 z).lt k = true := by unfold vF167; split <;> rfl
theorem vFren167 (z : Nat) (s : Nat → Nat) : (vF167 z).ren s = vF167 z := by unfold vF167; split <;> rfl
theorem isF167 (z : Nat) : (decide (z = 0) = true ∧ vF167 z = .p (.v .nilFunc)) ∨ (decide (z = 0) = false ∧ (vF167 z).isFn = true) := by
  by_cases e : z = 0
  · subst e; exact .inl ⟨rfl, rfl⟩
  · refine .inr ⟨by simp [e], ?_⟩
    unfold vF167; split <;> first | rfl | (exact absurd rfl e)
theorem eqI3 (a b : Int) (d : Nat) (w : World) : (Op.equalIn (d + 1) 3 (.int .i64 a) (.int .i64 b)).run Tryz.prog w = .ok (decide (a = b)) w := by
  simp [Op.equalIn, Tryz.runUnderlying3, Sem.run_bind, Result.andThen]
  rfl
theorem eqI5 (a b : Int) (d : Nat) (w : World) : (Op.equalIn (d + 1) 5 (.int .u8 a) (.int .u8 b)).run Tryz.prog w = .ok (decide (a = b)) w := by
  simp [Op.equalIn, Tryz.runUnderlying5, Sem.run_bind, Result.andThen]
  rfl
theorem st55 : Tryz.prog.stoodInHeld 55 = false := by kernel_rfl
theorem eqG55 : Tryz.prog.eqGuardType Tryz.prog.depth 55 = false := by kernel_rfl
theorem eqT55 (x y : ApiValue) (w : World) : (Op.equal 55 (.agg ([.int .u8 x.fault, .int .i64 x.n] : List Value).toArray) (.agg ([.int .u8 y.fault, .int .i64 y.n] : List Value).toArray)).run Tryz.prog w = .ok (decide (x = y)) w := by
  unfold Op.equal
  rw [show Op.maxDepth = 9998 + 1 + 1 from rfl]
  unfold Op.equalIn
  obtain ⟨a0, a1⟩ := x
  obtain ⟨b0, b1⟩ := y
  by_cases h0 : a0 = b0
  · by_cases h1 : a1 = b1
    · simp [Tryz.runUnderlying55, Sem.run_bind, st55, Result.andThen, part, Tryz.isAgg3, Tryz.isAgg5, eqI3, eqI5, ApiValue.mk.injEq, h0, h1]
    · simp [Tryz.runUnderlying55, Sem.run_bind, st55, Result.andThen, part, Tryz.isAgg3, Tryz.isAgg5, eqI3, eqI5, ApiValue.mk.injEq, h0, h1]
  · simp [Tryz.runUnderlying55, Sem.run_bind, st55, Result.andThen, part, Tryz.isAgg3, Tryz.isAgg5, eqI3, eqI5, ApiValue.mk.injEq, h0]
theorem st58 : Tryz.prog.stoodInHeld 58 = false := by kernel_rfl
theorem eqG58 : Tryz.prog.eqGuardType Tryz.prog.depth 58 = false := by kernel_rfl
theorem eqT58 (x y : ApiOp) (w : World) : (Op.equal 58 (.agg ([.int .u8 x.code, .int .i64 x.a, .int .i64 x.b, .int .i64 x.c, .int .i64 x.n] : List Value).toArray) (.agg ([.int .u8 y.code, .int .i64 y.a, .int .i64 y.b, .int .i64 y.c, .int .i64 y.n] : List Value).toArray)).run Tryz.prog w = .ok (decide (x = y)) w := by
  unfold Op.equal
  rw [show Op.maxDepth = 9998 + 1 + 1 from rfl]
  unfold Op.equalIn
  obtain ⟨a0, a1, a2, a3, a4⟩ := x
  obtain ⟨b0, b1, b2, b3, b4⟩ := y
  by_cases h0 : a0 = b0
  · by_cases h1 : a1 = b1
    · by_cases h2 : a2 = b2
      · by_cases h3 : a3 = b3
        · by_cases h4 : a4 = b4
          · simp [Tryz.runUnderlying58, Sem.run_bind, st58, Result.andThen, part, Tryz.isAgg3, Tryz.isAgg5, eqI3, eqI5, ApiOp.mk.injEq, h0, h1, h2, h3, h4]
          · simp [Tryz.runUnderlying58, Sem.run_bind, st58, Result.andThen, part, Tryz.isAgg3, Tryz.isAgg5, eqI3, eqI5, ApiOp.mk.injEq, h0, h1, h2, h3, h4]
        · simp [Tryz.runUnderlying58, Sem.run_bind, st58, Result.andThen, part, Tryz.isAgg3, Tryz.isAgg5, eqI3, eqI5, ApiOp.mk.injEq, h0, h1, h2, h3]
      · simp [Tryz.runUnderlying58, Sem.run_bind, st58, Result.andThen, part, Tryz.isAgg3, Tryz.isAgg5, eqI3, eqI5, ApiOp.mk.injEq, h0, h1, h2]
    · simp [Tryz.runUnderlying58, Sem.run_bind, st58, Result.andThen, part, Tryz.isAgg3, Tryz.isAgg5, eqI3, eqI5, ApiOp.mk.injEq, h0, h1]
  · simp [Tryz.runUnderlying58, Sem.run_bind, st58, Result.andThen, part, Tryz.isAgg3, Tryz.isAgg5, eqI3, eqI5, ApiOp.mk.injEq, h0]
theorem eqI9 (a b : ByteArray) (d : Nat) (w : World) : (Op.equalIn (d + 1) 9 (.string a) (.string b)).run Tryz.prog w = .ok (decide (a = b)) w := by
  simp [Op.equalIn, Tryz.runUnderlying9, Sem.run_bind, Result.andThen]
  rcases a with ⟨x⟩; rcases b with ⟨y⟩
  show (x == y) = _
  rw [Bool.eq_iff_iff]; simp
theorem st72 : Tryz.prog.stoodInHeld 72 = false := by kernel_rfl
theorem eqG72 : Tryz.prog.eqGuardType Tryz.prog.depth 72 = false := by kernel_rfl
theorem eqT72 (x y : ApiChoice) (w : World) : (Op.equal 72 (.agg ([.string x.name, .int .i64 x.lo, .int .i64 x.hi] : List Value).toArray) (.agg ([.string y.name, .int .i64 y.lo, .int .i64 y.hi] : List Value).toArray)).run Tryz.prog w = .ok (decide (x = y)) w := by
  unfold Op.equal
  rw [show Op.maxDepth = 9998 + 1 + 1 from rfl]
  unfold Op.equalIn
  obtain ⟨a0, a1, a2⟩ := x
  obtain ⟨b0, b1, b2⟩ := y
  by_cases h0 : a0 = b0
  · by_cases h1 : a1 = b1
    · by_cases h2 : a2 = b2
      · simp [Tryz.runUnderlying72, Sem.run_bind, st72, Result.andThen, part, Tryz.isAgg3, Tryz.isAgg9, eqI3, eqI9, ApiChoice.mk.injEq, h0, h1, h2]
      · simp [Tryz.runUnderlying72, Sem.run_bind, st72, Result.andThen, part, Tryz.isAgg3, Tryz.isAgg9, eqI3, eqI9, ApiChoice.mk.injEq, h0, h1, h2]
    · simp [Tryz.runUnderlying72, Sem.run_bind, st72, Result.andThen, part, Tryz.isAgg3, Tryz.isAgg9, eqI3, eqI9, ApiChoice.mk.injEq, h0, h1]
  · simp [Tryz.runUnderlying72, Sem.run_bind, st72, Result.andThen, part, Tryz.isAgg3, Tryz.isAgg9, eqI3, eqI9, ApiChoice.mk.injEq, h0]
theorem fa26_0 (w : World) (a : Addr) : (Instr.fieldAt 26 (.pointer (some a)) 0).run Tryz.prog w = .ok (.pointer (some (a.add 0))) w := by kernel_rfl
theorem fa26_1 (w : World) (a : Addr) : (Instr.fieldAt 26 (.pointer (some a)) 1).run Tryz.prog w = .ok (.pointer (some (a.add 1))) w := by kernel_rfl
theorem fa26_2 (w : World) (a : Addr) : (Instr.fieldAt 26 (.pointer (some a)) 2).run Tryz.prog w = .ok (.pointer (some (a.add 2))) w := by kernel_rfl
theorem fa42_0 (w : World) (a : Addr) : (Instr.fieldAt 42 (.pointer (some a)) 0).run Tryz.prog w = .ok (.pointer (some (a.add 0))) w := by kernel_rfl
theorem fa42_1 (w : World) (a : Addr) : (Instr.fieldAt 42 (.pointer (some a)) 1).run Tryz.prog w = .ok (.pointer (some (a.add 1))) w := by kernel_rfl
theorem fa42_2 (w : World) (a : Addr) : (Instr.fieldAt 42 (.pointer (some a)) 2).run Tryz.prog w = .ok (.pointer (some (a.add 2))) w := by kernel_rfl
theorem fa55_0 (w : World) (a : Addr) : (Instr.fieldAt 55 (.pointer (some a)) 0).run Tryz.prog w = .ok (.pointer (some (a.add 0))) w := by kernel_rfl
theorem fa55_1 (w : World) (a : Addr) : (Instr.fieldAt 55 (.pointer (some a)) 1).run Tryz.prog w = .ok (.pointer (some (a.add 1))) w := by kernel_rfl
theorem fa58_0 (w : World) (a : Addr) : (Instr.fieldAt 58 (.pointer (some a)) 0).run Tryz.prog w = .ok (.pointer (some (a.add 0))) w := by kernel_rfl
theorem fa58_1 (w : World) (a : Addr) : (Instr.fieldAt 58 (.pointer (some a)) 1).run Tryz.prog w = .ok (.pointer (some (a.add 1))) w := by kernel_rfl
theorem fa58_2 (w : World) (a : Addr) : (Instr.fieldAt 58 (.pointer (some a)) 2).run Tryz.prog w = .ok (.pointer (some (a.add 2))) w := by kernel_rfl
theorem fa58_3 (w : World) (a : Addr) : (Instr.fieldAt 58 (.pointer (some a)) 3).run Tryz.prog w = .ok (.pointer (some (a.add 3))) w := by kernel_rfl
theorem fa58_4 (w : World) (a : Addr) : (Instr.fieldAt 58 (.pointer (some a)) 4).run Tryz.prog w = .ok (.pointer (some (a.add 4))) w := by kernel_rfl
theorem fa72_1 (w : World) (a : Addr) : (Instr.fieldAt 72 (.pointer (some a)) 1).run Tryz.prog w = .ok (.pointer (some (a.add 1))) w := by kernel_rfl
theorem fa72_2 (w : World) (a : Addr) : (Instr.fieldAt 72 (.pointer (some a)) 2).run Tryz.prog w = .ok (.pointer (some (a.add 2))) w := by kernel_rfl
theorem info3 : (Tryz.prog.info? 3).map (fun i => (i.zero, i.size, i.bytes)) = some (some (Value.int IntKind.i64 0), 1, 8) := by kernel_rfl
theorem info4 : (Tryz.prog.info? 4).map (fun i => (i.zero, i.size, i.bytes)) = some (some (Value.bool false), 1, 1) := by kernel_rfl
theorem info55 : (Tryz.prog.info? 55).map (fun i => (i.zero, i.size, i.bytes)) = some (some (Value.agg #[(Value.int IntKind.u8 0), (Value.int IntKind.i64 0)]), 2, 16) := by kernel_rfl
theorem info58 : (Tryz.prog.info? 58).map (fun i => (i.zero, i.size, i.bytes)) = some (some (Value.agg #[(Value.int IntKind.u8 0), (Value.int IntKind.i64 0), (Value.int IntKind.i64 0), (Value.int IntKind.i64 0), (Value.int IntKind.i64 0)]), 5, 40) := by kernel_rfl
theorem info72 : (Tryz.prog.info? 72).map (fun i => (i.zero, i.size, i.bytes)) = some (some (Value.agg #[(Value.string { data := #[] }), (Value.int IntKind.i64 0), (Value.int IntKind.i64 0)]), 3, 32) := by kernel_rfl
theorem Tryz.mixed : Tryz.prog.follows .mixedOrders = true := by kernel_rfl
theorem bu26 (c : Array Value) (ps : List (Nat × Value)) (w : World) (h : Instr.fill (fun i => ([(0, 1), (1, 1), (2, 1)] : List (Nat × Nat))[i]?) ([(Value.slice none 0 0), (Value.slice none 0 0), (Value.slice none 0 0)] : List Value).toArray ps = some c) : (Instr.build 26 ps.toArray).run Tryz.prog w = .ok (.agg c) w := build_run (pl := [(0, 1), (1, 1), (2, 1)]) (zs := [(Value.slice none 0 0), (Value.slice none 0 0), (Value.slice none 0 0)]) Tryz.zeroValue26 Tryz.runUnderlying26 (fun _ => by kernel_rfl) rfl c ps w h
theorem bu42 (c : Array Value) (ps : List (Nat × Value)) (w : World) (h : Instr.fill (fun i => ([(0, 1), (1, 1), (2, 3)] : List (Nat × Nat))[i]?) ([(Value.string { data := #[] }), (Value.int IntKind.i64 0), (Value.slice none 0 0), (Value.slice none 0 0), (Value.slice none 0 0)] : List Value).toArray ps = some c) : (Instr.build 42 ps.toArray).run Tryz.prog w = .ok (.agg c) w := build_run (pl := [(0, 1), (1, 1), (2, 3)]) (zs := [(Value.string { data := #[] }), (Value.int IntKind.i64 0), (Value.slice none 0 0), (Value.slice none 0 0), (Value.slice none 0 0)]) Tryz.zeroValue42 Tryz.runUnderlying42 (fun _ => by kernel_rfl) rfl c ps w h
theorem bu55 (c : Array Value) (ps : List (Nat × Value)) (w : World) (h : Instr.fill (fun i => ([(0, 1), (1, 1)] : List (Nat × Nat))[i]?) ([(Value.int IntKind.u8 0), (Value.int IntKind.i64 0)] : List Value).toArray ps = some c) : (Instr.build 55 ps.toArray).run Tryz.prog w = .ok (.agg c) w := build_run (pl := [(0, 1), (1, 1)]) (zs := [(Value.int IntKind.u8 0), (Value.int IntKind.i64 0)]) Tryz.zeroValue55 Tryz.runUnderlying55 (fun _ => by kernel_rfl) rfl c ps w h
theorem bu58 (c : Array Value) (ps : List (Nat × Value)) (w : World) (h : Instr.fill (fun i => ([(0, 1), (1, 1), (2, 1), (3, 1), (4, 1)] : List (Nat × Nat))[i]?) ([(Value.int IntKind.u8 0), (Value.int IntKind.i64 0), (Value.int IntKind.i64 0), (Value.int IntKind.i64 0), (Value.int IntKind.i64 0)] : List Value).toArray ps = some c) : (Instr.build 58 ps.toArray).run Tryz.prog w = .ok (.agg c) w := build_run (pl := [(0, 1), (1, 1), (2, 1), (3, 1), (4, 1)]) (zs := [(Value.int IntKind.u8 0), (Value.int IntKind.i64 0), (Value.int IntKind.i64 0), (Value.int IntKind.i64 0), (Value.int IntKind.i64 0)]) Tryz.zeroValue58 Tryz.runUnderlying58 (fun _ => by kernel_rfl) rfl c ps w h
theorem bu72 (c : Array Value) (ps : List (Nat × Value)) (w : World) (h : Instr.fill (fun i => ([(0, 1), (1, 1), (2, 1)] : List (Nat × Nat))[i]?) ([(Value.string { data := #[] }), (Value.int IntKind.i64 0), (Value.int IntKind.i64 0)] : List Value).toArray ps = some c) : (Instr.build 72 ps.toArray).run Tryz.prog w = .ok (.agg c) w := build_run (pl := [(0, 1), (1, 1), (2, 1)]) (zs := [(Value.string { data := #[] }), (Value.int IntKind.i64 0), (Value.int IntKind.i64 0)]) Tryz.zeroValue72 Tryz.runUnderlying72 (fun _ => by kernel_rfl) rfl c ps w h
theorem bu93 (c : Array Value) (ps : List (Nat × Value)) (w : World) (h : Instr.fill (fun i => ([(0, 1), (1, 1), (2, 1)] : List (Nat × Nat))[i]?) ([(Value.int IntKind.i64 0), (Value.int IntKind.i64 0), (Value.int IntKind.i64 0)] : List Value).toArray ps = some c) : (Instr.build 93 ps.toArray).run Tryz.prog w = .ok (.agg c) w := build_runA (pl := [(0, 1), (1, 1), (2, 1)]) (zs := [(Value.int IntKind.i64 0), (Value.int IntKind.i64 0), (Value.int IntKind.i64 0)]) Tryz.zeroValue93 Tryz.runUnderlying93 Tryz.sizeOf3 rfl rfl c ps w h
theorem Tryz.under22 : Tryz.prog.underlying 22 = some (.slice 72) := by kernel_rfl
theorem Tryz.under23 : Tryz.prog.underlying 23 = some (.slice 58) := by kernel_rfl
theorem Tryz.under24 : Tryz.prog.underlying 24 = some (.slice 3) := by kernel_rfl
theorem Tryz.under32 : Tryz.prog.underlying 32 = some (.slice 55) := by kernel_rfl
theorem Tryz.under56 : Tryz.prog.underlying 56 = some (.slice 4) := by kernel_rfl
theorem eApiChoice_len (x : ApiChoice) : (eApiChoice x).length = 3 := rfl
theorem eApiChoice_one (x : ApiChoice) : (eApiChoice x).all P.one = true := rfl
theorem eApiOp_len (x : ApiOp) : (eApiOp x).length = 5 := rfl
theorem eApiOp_one (x : ApiOp) : (eApiOp x).all P.one = true := rfl
theorem eApiValue_len (x : ApiValue) : (eApiValue x).length = 2 := rfl
theorem eApiValue_one (x : ApiValue) : (eApiValue x).all P.one = true := rfl
theorem eAnon92_len (x : Anon92) : (eAnon92 x).length = 4 := rfl
end Go.Proofs.YtpcgfeckokgbfaaGreatDoor
