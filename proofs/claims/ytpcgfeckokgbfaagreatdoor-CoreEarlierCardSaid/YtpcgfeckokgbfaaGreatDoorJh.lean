/- Code beside a function that may fail: one rule an operation. -/
import Derived.Test.YtpcgfeckokgbfaaGreatDoorJg
import Derived.Laws.Strings
set_option linter.all false
namespace Go.Dp
open Go Go.Mi Go.RowKit
section
variable {Y : Cy} {Q : Exit → Act → World → Prop} {l : Fv} {H : List Ob} {R : Type} {m : Option R} {T : R → Prop} {ops : Array Oper} {os rest : List Oper} {acc : List (List Nat × List Nat)} {t : Nat} {ty : TypeId} {pos : String} {af : Array Edge} {gd : Option (Nat × Bool)} {dst : Option Tmp}
theorem MS.mv {x : Operand} {d : V} (h : evV l x = some d) (hd : Nat.blt t Y.X.N = true) (k : MS Y ops Q rest ((t, d) :: l) H m T) : MS Y ops Q ({ dst := some t, op := .move x, type := ty, pos := pos, after := af, guard := none } :: rest) l H m T := fun hQ => SJ.it (dst := some t) (i_move h) rd0 hd (k hQ)
theorem MA.mv {x : Operand} {d : V} (h : evV l x = some d) (hg : GOk os l gd) (k : MA Y Q os rest ((t, d) :: l) H (acc ++ [([], [])]) m T) : MA Y Q os ({ dst := some t, op := .move x, type := ty, pos := pos, after := af, guard := gd } :: rest) l H acc m T := fun hQ => AJ.gi (dst := some t) (i_move h) rd0 hg (k hQ)
theorem MS.sg {x : Operand} {d : V} (h : evV l x = some d) (hd : Nat.blt t Y.X.N = true) (k : MS Y ops Q rest ((t, d) :: l) H m T) : MS Y ops Q ({ dst := some t, op := .assign x, type := ty, pos := pos, after := af, guard := none } :: rest) l H m T := fun hQ => SJ.it (dst := some t) (i_assign h) rd0 hd (k hQ)
theorem MA.sg {x : Operand} {d : V} (h : evV l x = some d) (hg : GOk os l gd) (k : MA Y Q os rest ((t, d) :: l) H (acc ++ [([], [])]) m T) : MA Y Q os ({ dst := some t, op := .assign x, type := ty, pos := pos, after := af, guard := gd } :: rest) l H acc m T := fun hQ => AJ.gi (dst := some t) (i_assign h) rd0 hg (k hQ)
theorem MS.add {U V : TypeId} {x y : Operand} {i : IntKind} {a b : Int} (hx : evV l x = some (.p (.v (.int i a)))) (hy : evV l y = some (.p (.v (.int i b)))) (hd : Nat.blt t Y.X.N = true) (k : MS Y ops Q rest ((t, .p (.v (.int i (i.wrap (a + b))))) :: l) H m T) : MS Y ops Q ({ dst := some t, op := .binOp .add U x y V, type := ty, pos := pos, after := af, guard := none } :: rest) l H m T := fun hQ => SJ.it (dst := some t) (i_addW hx hy) rd0 hd (k hQ)
theorem MA.add {U V : TypeId} {x y : Operand} {i : IntKind} {a b : Int} (hx : evV l x = some (.p (.v (.int i a)))) (hy : evV l y = some (.p (.v (.int i b)))) (hg : GOk os l gd) (k : MA Y Q os rest ((t, .p (.v (.int i (i.wrap (a + b))))) :: l) H (acc ++ [([], [])]) m T) : MA Y Q os ({ dst := some t, op := .binOp .add U x y V, type := ty, pos := pos, after := af, guard := gd } :: rest) l H acc m T := fun hQ => AJ.gi (dst := some t) (i_addW hx hy) rd0 hg (k hQ)
theorem MS.sb {U V : TypeId} {x y : Operand} {i : IntKind} {a b : Int} (hx : evV l x = some (.p (.v (.int i a)))) (hy : evV l y = some (.p (.v (.int i b)))) (hd : Nat.blt t Y.X.N = true) (k : MS Y ops Q rest ((t, .p (.v (.int i (i.wrap (a - b))))) :: l) H m T) : MS Y ops Q ({ dst := some t, op := .binOp .sub U x y V, type := ty, pos := pos, after := af, guard := none } :: rest) l H m T := fun hQ => SJ.it (dst := some t) (i_subW hx hy) rd0 hd (k hQ)
theorem MA.sb {U V : TypeId} {x y : Operand} {i : IntKind} {a b : Int} (hx : evV l x = some (.p (.v (.int i a)))) (hy : evV l y = some (.p (.v (.int i b)))) (hg : GOk os l gd) (k : MA Y Q os rest ((t, .p (.v (.int i (i.wrap (a - b))))) :: l) H (acc ++ [([], [])]) m T) : MA Y Q os ({ dst := some t, op := .binOp .sub U x y V, type := ty, pos := pos, after := af, guard := gd } :: rest) l H acc m T := fun hQ => AJ.gi (dst := some t) (i_subW hx hy) rd0 hg (k hQ)
theorem MS.mul {U V : TypeId} {x y : Operand} {i : IntKind} {a b : Int} (hx : evV l x = some (.p (.v (.int i a)))) (hy : evV l y = some (.p (.v (.int i b)))) (hd : Nat.blt t Y.X.N = true) (k : MS Y ops Q rest ((t, .p (.v (.int i (i.wrap (a * b))))) :: l) H m T) : MS Y ops Q ({ dst := some t, op := .binOp .mul U x y V, type := ty, pos := pos, after := af, guard := none } :: rest) l H m T := fun hQ => SJ.it (dst := some t) (i_mulW hx hy) rd0 hd (k hQ)
theorem MA.mul {U V : TypeId} {x y : Operand} {i : IntKind} {a b : Int} (hx : evV l x = some (.p (.v (.int i a)))) (hy : evV l y = some (.p (.v (.int i b)))) (hg : GOk os l gd) (k : MA Y Q os rest ((t, .p (.v (.int i (i.wrap (a * b))))) :: l) H (acc ++ [([], [])]) m T) : MA Y Q os ({ dst := some t, op := .binOp .mul U x y V, type := ty, pos := pos, after := af, guard := gd } :: rest) l H acc m T := fun hQ => AJ.gi (dst := some t) (i_mulW hx hy) rd0 hg (k hQ)
theorem MS.lss {U V : TypeId} {x y : Operand} {i : IntKind} {a b : Int} (hx : evV l x = some (.p (.v (.int i a)))) (hy : evV l y = some (.p (.v (.int i b)))) (hd : Nat.blt t Y.X.N = true) (k : MS Y ops Q rest ((t, vB (decide (a < b))) :: l) H m T) : MS Y ops Q ({ dst := some t, op := .binOp .lss U x y V, type := ty, pos := pos, after := af, guard := none } :: rest) l H m T := fun hQ => SJ.it (dst := some t) (i_lss hx hy) rd0 hd (k hQ)
theorem MA.lss {U V : TypeId} {x y : Operand} {i : IntKind} {a b : Int} (hx : evV l x = some (.p (.v (.int i a)))) (hy : evV l y = some (.p (.v (.int i b)))) (hg : GOk os l gd) (k : MA Y Q os rest ((t, vB (decide (a < b))) :: l) H (acc ++ [([], [])]) m T) : MA Y Q os ({ dst := some t, op := .binOp .lss U x y V, type := ty, pos := pos, after := af, guard := gd } :: rest) l H acc m T := fun hQ => AJ.gi (dst := some t) (i_lss hx hy) rd0 hg (k hQ)
theorem MS.leq {U V : TypeId} {x y : Operand} {i : IntKind} {a b : Int} (hx : evV l x = some (.p (.v (.int i a)))) (hy : evV l y = some (.p (.v (.int i b)))) (hd : Nat.blt t Y.X.N = true) (k : MS Y ops Q rest ((t, vB (decide (a ≤ b))) :: l) H m T) : MS Y ops Q ({ dst := some t, op := .binOp .leq U x y V, type := ty, pos := pos, after := af, guard := none } :: rest) l H m T := fun hQ => SJ.it (dst := some t) (i_leq hx hy) rd0 hd (k hQ)
theorem MA.leq {U V : TypeId} {x y : Operand} {i : IntKind} {a b : Int} (hx : evV l x = some (.p (.v (.int i a)))) (hy : evV l y = some (.p (.v (.int i b)))) (hg : GOk os l gd) (k : MA Y Q os rest ((t, vB (decide (a ≤ b))) :: l) H (acc ++ [([], [])]) m T) : MA Y Q os ({ dst := some t, op := .binOp .leq U x y V, type := ty, pos := pos, after := af, guard := gd } :: rest) l H acc m T := fun hQ => AJ.gi (dst := some t) (i_leq hx hy) rd0 hg (k hQ)
theorem MS.gtr {U V : TypeId} {x y : Operand} {i : IntKind} {a b : Int} (hx : evV l x = some (.p (.v (.int i a)))) (hy : evV l y = some (.p (.v (.int i b)))) (hd : Nat.blt t Y.X.N = true) (k : MS Y ops Q rest ((t, vB (decide (b < a))) :: l) H m T) : MS Y ops Q ({ dst := some t, op := .binOp .gtr U x y V, type := ty, pos := pos, after := af, guard := none } :: rest) l H m T := fun hQ => SJ.it (dst := some t) (i_gtr hx hy) rd0 hd (k hQ)
theorem MA.gtr {U V : TypeId} {x y : Operand} {i : IntKind} {a b : Int} (hx : evV l x = some (.p (.v (.int i a)))) (hy : evV l y = some (.p (.v (.int i b)))) (hg : GOk os l gd) (k : MA Y Q os rest ((t, vB (decide (b < a))) :: l) H (acc ++ [([], [])]) m T) : MA Y Q os ({ dst := some t, op := .binOp .gtr U x y V, type := ty, pos := pos, after := af, guard := gd } :: rest) l H acc m T := fun hQ => AJ.gi (dst := some t) (i_gtr hx hy) rd0 hg (k hQ)
theorem MS.geq {U V : TypeId} {x y : Operand} {i : IntKind} {a b : Int} (hx : evV l x = some (.p (.v (.int i a)))) (hy : evV l y = some (.p (.v (.int i b)))) (hd : Nat.blt t Y.X.N = true) (k : MS Y ops Q rest ((t, vB (decide (b ≤ a))) :: l) H m T) : MS Y ops Q ({ dst := some t, op := .binOp .geq U x y V, type := ty, pos := pos, after := af, guard := none } :: rest) l H m T := fun hQ => SJ.it (dst := some t) (i_geq hx hy) rd0 hd (k hQ)
theorem MA.geq {U V : TypeId} {x y : Operand} {i : IntKind} {a b : Int} (hx : evV l x = some (.p (.v (.int i a)))) (hy : evV l y = some (.p (.v (.int i b)))) (hg : GOk os l gd) (k : MA Y Q os rest ((t, vB (decide (b ≤ a))) :: l) H (acc ++ [([], [])]) m T) : MA Y Q os ({ dst := some t, op := .binOp .geq U x y V, type := ty, pos := pos, after := af, guard := gd } :: rest) l H acc m T := fun hQ => AJ.gi (dst := some t) (i_geq hx hy) rd0 hg (k hQ)
theorem MS.eql {U V : TypeId} {x y : Operand} {i : IntKind} {a b : Int} (hx : evV l x = some (.p (.v (.int i a)))) (hy : evV l y = some (.p (.v (.int i b)))) (hd : Nat.blt t Y.X.N = true) (k : MS Y ops Q rest ((t, vB (decide (a = b))) :: l) H m T) : MS Y ops Q ({ dst := some t, op := .binOp .eql U x y V, type := ty, pos := pos, after := af, guard := none } :: rest) l H m T := fun hQ => SJ.it (dst := some t) (i_eql hx hy) rd0 hd (k hQ)
theorem MA.eql {U V : TypeId} {x y : Operand} {i : IntKind} {a b : Int} (hx : evV l x = some (.p (.v (.int i a)))) (hy : evV l y = some (.p (.v (.int i b)))) (hg : GOk os l gd) (k : MA Y Q os rest ((t, vB (decide (a = b))) :: l) H (acc ++ [([], [])]) m T) : MA Y Q os ({ dst := some t, op := .binOp .eql U x y V, type := ty, pos := pos, after := af, guard := gd } :: rest) l H acc m T := fun hQ => AJ.gi (dst := some t) (i_eql hx hy) rd0 hg (k hQ)
theorem MS.neq {U V : TypeId} {x y : Operand} {i : IntKind} {a b : Int} (hx : evV l x = some (.p (.v (.int i a)))) (hy : evV l y = some (.p (.v (.int i b)))) (hd : Nat.blt t Y.X.N = true) (k : MS Y ops Q rest ((t, vB (!decide (a = b))) :: l) H m T) : MS Y ops Q ({ dst := some t, op := .binOp .neq U x y V, type := ty, pos := pos, after := af, guard := none } :: rest) l H m T := fun hQ => SJ.it (dst := some t) (i_neq hx hy) rd0 hd (k hQ)
theorem MA.neq {U V : TypeId} {x y : Operand} {i : IntKind} {a b : Int} (hx : evV l x = some (.p (.v (.int i a)))) (hy : evV l y = some (.p (.v (.int i b)))) (hg : GOk os l gd) (k : MA Y Q os rest ((t, vB (!decide (a = b))) :: l) H (acc ++ [([], [])]) m T) : MA Y Q os ({ dst := some t, op := .binOp .neq U x y V, type := ty, pos := pos, after := af, guard := gd } :: rest) l H acc m T := fun hQ => AJ.gi (dst := some t) (i_neq hx hy) rd0 hg (k hQ)
theorem MS.quo {U V : TypeId} {x y : Operand} {i : IntKind} {a b : Int} {f : Int → Option R} (hx : evV l x = some (.p (.v (.int i a)))) (hy : evV l y = some (.p (.v (.int i b)))) (hd : Nat.blt t Y.X.N = true) (k : ∀ z : Int, MS Y ops Q rest ((t, .p (.v (.int i (i.wrap z)))) :: l) H (f z) T) : MS Y ops Q ({ dst := some t, op := .binOp .quo U x y V, type := ty, pos := pos, after := af, guard := none } :: rest) l H ((dvd a b).bind f) T := fun hQ => by
  obtain ⟨z, h1, h2⟩ := hQ.bind
  obtain ⟨h3, rfl⟩ := dvd_some h1
  exact SJ.it (dst := some t) (i_quoW hx hy h3) rd0 hd (k _ h2)
theorem MA.quo {U V : TypeId} {x y : Operand} {i : IntKind} {a b : Int} {f : Int → Option R} (hx : evV l x = some (.p (.v (.int i a)))) (hy : evV l y = some (.p (.v (.int i b)))) (hg : GOk os l gd) (k : ∀ z : Int, MA Y Q os rest ((t, .p (.v (.int i (i.wrap z)))) :: l) H (acc ++ [([], [])]) (f z) T) : MA Y Q os ({ dst := some t, op := .binOp .quo U x y V, type := ty, pos := pos, after := af, guard := gd } :: rest) l H acc ((dvd a b).bind f) T := fun hQ => by
  obtain ⟨z, h1, h2⟩ := hQ.bind
  obtain ⟨h3, rfl⟩ := dvd_some h1
  exact AJ.gi (dst := some t) (i_quoW hx hy h3) rd0 hg (k _ h2)
theorem MS.rem {U V : TypeId} {x y : Operand} {i : IntKind} {a b : Int} {f : Int → Option R} (hx : evV l x = some (.p (.v (.int i a)))) (hy : evV l y = some (.p (.v (.int i b)))) (hd : Nat.blt t Y.X.N = true) (k : ∀ z : Int, MS Y ops Q rest ((t, .p (.v (.int i z))) :: l) H (f z) T) : MS Y ops Q ({ dst := some t, op := .binOp .rem U x y V, type := ty, pos := pos, after := af, guard := none } :: rest) l H ((md a b).bind f) T := fun hQ => by
  obtain ⟨z, h1, h2⟩ := hQ.bind
  obtain ⟨h3, rfl⟩ := md_some h1
  exact SJ.it (dst := some t) (i_rem hx hy h3) rd0 hd (k _ h2)
theorem MA.rem {U V : TypeId} {x y : Operand} {i : IntKind} {a b : Int} {f : Int → Option R} (hx : evV l x = some (.p (.v (.int i a)))) (hy : evV l y = some (.p (.v (.int i b)))) (hg : GOk os l gd) (k : ∀ z : Int, MA Y Q os rest ((t, .p (.v (.int i z))) :: l) H (acc ++ [([], [])]) (f z) T) : MA Y Q os ({ dst := some t, op := .binOp .rem U x y V, type := ty, pos := pos, after := af, guard := gd } :: rest) l H acc ((md a b).bind f) T := fun hQ => by
  obtain ⟨z, h1, h2⟩ := hQ.bind
  obtain ⟨h3, rfl⟩ := md_some h1
  exact AJ.gi (dst := some t) (i_rem hx hy h3) rd0 hg (k _ h2)
theorem MS.not {U : TypeId} {x : Operand} {b : Bool} (hx : evV l x = some (vB b)) (hd : Nat.blt t Y.X.N = true) (k : MS Y ops Q rest ((t, vB (!b)) :: l) H m T) : MS Y ops Q ({ dst := some t, op := .unOp .not U x, type := ty, pos := pos, after := af, guard := none } :: rest) l H m T := fun hQ => SJ.it (dst := some t) (i_not hx) rd0 hd (k hQ)
theorem MA.not {U : TypeId} {x : Operand} {b : Bool} (hx : evV l x = some (vB b)) (hg : GOk os l gd) (k : MA Y Q os rest ((t, vB (!b)) :: l) H (acc ++ [([], [])]) m T) : MA Y Q os ({ dst := some t, op := .unOp .not U x, type := ty, pos := pos, after := af, guard := gd } :: rest) l H acc m T := fun hQ => AJ.gi (dst := some t) (i_not hx) rd0 hg (k hQ)
theorem MS.xt {x : Operand} {i : Nat} {ds : List V} {d : V} (hx : evV l x = some (.tup ds)) (h1 : ds[i]? = some d) (hd : Nat.blt t Y.X.N = true) (k : MS Y ops Q rest ((t, d) :: l) H m T) : MS Y ops Q ({ dst := some t, op := .extract x i, type := ty, pos := pos, after := af, guard := none } :: rest) l H m T := fun hQ => SJ.it (dst := some t) (i_extract hx h1) rd0 hd (k hQ)
theorem MA.xt {x : Operand} {i : Nat} {ds : List V} {d : V} (hx : evV l x = some (.tup ds)) (h1 : ds[i]? = some d) (hg : GOk os l gd) (k : MA Y Q os rest ((t, d) :: l) H (acc ++ [([], [])]) m T) : MA Y Q os ({ dst := some t, op := .extract x i, type := ty, pos := pos, after := af, guard := gd } :: rest) l H acc m T := fun hQ => AJ.gi (dst := some t) (i_extract hx h1) rd0 hg (k hQ)
theorem MS.fE {S f off : Nat} {x : Operand} {cs : List P} (hf : ∀ w a, (Instr.fieldAt S (.pointer (some a)) f).run Y.X.P w = .ok (.pointer (some (a.add off))) w) (hx : evV l x = some (.el cs)) (hl : Nat.ble off cs.length = true) (hd : Nat.blt t Y.X.N = true) (k : MS Y ops Q rest ((t, .el (cs.drop off)) :: l) H m T) : MS Y ops Q ({ dst := some t, op := .fieldAddr S x f, type := ty, pos := pos, after := af, guard := none } :: rest) l H m T := fun hQ => SJ.it (dst := some t) (i_fieldE hf hx hl) rd0 hd (k hQ)
theorem MA.fE {S f off : Nat} {x : Operand} {cs : List P} (hf : ∀ w a, (Instr.fieldAt S (.pointer (some a)) f).run Y.X.P w = .ok (.pointer (some (a.add off))) w) (hx : evV l x = some (.el cs)) (hl : Nat.ble off cs.length = true) (hg : GOk os l gd) (k : MA Y Q os rest ((t, .el (cs.drop off)) :: l) H (acc ++ [([], [])]) m T) : MA Y Q os ({ dst := some t, op := .fieldAddr S x f, type := ty, pos := pos, after := af, guard := gd } :: rest) l H acc m T := fun hQ => AJ.gi (dst := some t) (i_fieldE hf hx hl) rd0 hg (k hQ)
theorem MS.fR {S f off i o : Nat} {x : Operand} (hf : ∀ w a, (Instr.fieldAt S (.pointer (some a)) f).run Y.X.P w = .ok (.pointer (some (a.add off))) w) (hx : evV l x = some (.ref i o)) (hd : Nat.blt t Y.X.N = true) (k : MS Y ops Q rest ((t, .ref i (o + off)) :: l) H m T) : MS Y ops Q ({ dst := some t, op := .fieldAddr S x f, type := ty, pos := pos, after := af, guard := none } :: rest) l H m T := fun hQ => SJ.it (dst := some t) (i_fieldR hf hx) rd0 hd (k hQ)
theorem MA.fR {S f off i o : Nat} {x : Operand} (hf : ∀ w a, (Instr.fieldAt S (.pointer (some a)) f).run Y.X.P w = .ok (.pointer (some (a.add off))) w) (hx : evV l x = some (.ref i o)) (hg : GOk os l gd) (k : MA Y Q os rest ((t, .ref i (o + off)) :: l) H (acc ++ [([], [])]) m T) : MA Y Q os ({ dst := some t, op := .fieldAddr S x f, type := ty, pos := pos, after := af, guard := gd } :: rest) l H acc m T := fun hQ => AJ.gi (dst := some t) (i_fieldR hf hx) rd0 hg (k hQ)
theorem MS.lE {U : TypeId} {x : Operand} {cs : List P} {c : P} (hT : ∀ w, (isAgg U).run Y.X.P w = .ok false w) (hx : evV l x = some (.el cs)) (hc : cs[0]? = some c) (hd : Nat.blt t Y.X.N = true) (k : MS Y ops Q rest ((t, .p c) :: l) H m T) : MS Y ops Q ({ dst := some t, op := .load U x, type := ty, pos := pos, after := af, guard := none } :: rest) l H m T := fun hQ => SJ.it (dst := some t) (i_loadE hT hx hc) rd0 hd (k hQ)
theorem MA.lE {U : TypeId} {x : Operand} {cs : List P} {c : P} (hT : ∀ w, (isAgg U).run Y.X.P w = .ok false w) (hx : evV l x = some (.el cs)) (hc : cs[0]? = some c) (hg : GOk os l gd) (k : MA Y Q os rest ((t, .p c) :: l) H (acc ++ [([], [])]) m T) : MA Y Q os ({ dst := some t, op := .load U x, type := ty, pos := pos, after := af, guard := gd } :: rest) l H acc m T := fun hQ => AJ.gi (dst := some t) (i_loadE hT hx hc) rd0 hg (k hQ)
theorem MS.lEA {U n : TypeId} {x : Operand} {cs : List P} (hT : ∀ w, (isAgg U).run Y.X.P w = .ok true w) (hn : ∀ w, (sizeOf U).run Y.X.P w = .ok n w) (hx : evV l x = some (.el cs)) (hl : Nat.ble n cs.length = true) (hd : Nat.blt t Y.X.N = true) (k : MS Y ops Q rest ((t, .agg ((cs.take n).map .p)) :: l) H m T) : MS Y ops Q ({ dst := some t, op := .load U x, type := ty, pos := pos, after := af, guard := none } :: rest) l H m T := fun hQ => SJ.it (dst := some t) (i_loadEA hT hn hx hl) rd0 hd (k hQ)
theorem MA.lEA {U n : TypeId} {x : Operand} {cs : List P} (hT : ∀ w, (isAgg U).run Y.X.P w = .ok true w) (hn : ∀ w, (sizeOf U).run Y.X.P w = .ok n w) (hx : evV l x = some (.el cs)) (hl : Nat.ble n cs.length = true) (hg : GOk os l gd) (k : MA Y Q os rest ((t, .agg ((cs.take n).map .p)) :: l) H (acc ++ [([], [])]) m T) : MA Y Q os ({ dst := some t, op := .load U x, type := ty, pos := pos, after := af, guard := gd } :: rest) l H acc m T := fun hQ => AJ.gi (dst := some t) (i_loadEA hT hn hx hl) rd0 hg (k hQ)
theorem MS.bxE {U : TypeId} {x : Operand} {d : V} {cs : List P} (hx : evV l x = some d) (hc : d.cells = cs.map .p) (h1 : cs.all P.one = true) (hd : Nat.blt t Y.X.N = true) (k : MS Y ops Q rest ((t, .el cs) :: l) H m T) : MS Y ops Q ({ dst := some t, op := .box U x, type := ty, pos := pos, after := af, guard := none } :: rest) l H m T := fun hQ => SJ.it (dst := some t) (i_boxE hx hc h1) rd0 hd (k hQ)
theorem MA.bxE {U : TypeId} {x : Operand} {d : V} {cs : List P} (hx : evV l x = some d) (hc : d.cells = cs.map .p) (h1 : cs.all P.one = true) (hg : GOk os l gd) (k : MA Y Q os rest ((t, .el cs) :: l) H (acc ++ [([], [])]) m T) : MA Y Q os ({ dst := some t, op := .box U x, type := ty, pos := pos, after := af, guard := gd } :: rest) l H acc m T := fun hQ => AJ.gi (dst := some t) (i_boxE hx hc h1) rd0 hg (k hQ)
theorem MS.ln {α : Type} {U E k : Nat} {e : α → List P} {x : Operand} {d : V} {xs : List α} (hT : ∀ w, (underlying U).run Y.X.P w = .ok (.slice E) w) (hx : evV l x = some d) (hs : V.sls k e d xs) (hd : Nat.blt t Y.X.N = true) (k : MS Y ops Q rest ((t, vI xs.length) :: l) H m T) : MS Y ops Q ({ dst := some t, op := .call { callee := .builtin .len, args := #[x], argTypes := #[U] }, type := ty, pos := pos, after := af, guard := none } :: rest) l H m T := fun hQ => SJ.it (dst := some t) (i_ln hT hx hs) rd0 hd (k hQ)
theorem MA.ln {α : Type} {U E k : Nat} {e : α → List P} {x : Operand} {d : V} {xs : List α} (hT : ∀ w, (underlying U).run Y.X.P w = .ok (.slice E) w) (hx : evV l x = some d) (hs : V.sls k e d xs) (hg : GOk os l gd) (k : MA Y Q os rest ((t, vI xs.length) :: l) H (acc ++ [([], [])]) m T) : MA Y Q os ({ dst := some t, op := .call { callee := .builtin .len, args := #[x], argTypes := #[U] }, type := ty, pos := pos, after := af, guard := gd } :: rest) l H acc m T := fun hQ => AJ.gi (dst := some t) (i_ln hT hx hs) rd0 hg (k hQ)
theorem MS.nc {x : Operand} {i off : Nat} (hx : evV l x = some (.ref i off)) (hd : Nat.blt t Y.X.N = true) (k : MS Y ops Q rest ((t, .ref i off) :: l) H m T) : MS Y ops Q ({ dst := some t, op := .nilCheck x, type := ty, pos := pos, after := af, guard := none } :: rest) l H m T := fun hQ => SJ.it (dst := some t) (i_nilCheck hx) rd0 hd (k hQ)
theorem MA.nc {x : Operand} {i off : Nat} (hx : evV l x = some (.ref i off)) (hg : GOk os l gd) (k : MA Y Q os rest ((t, .ref i off) :: l) H (acc ++ [([], [])]) m T) : MA Y Q os ({ dst := some t, op := .nilCheck x, type := ty, pos := pos, after := af, guard := gd } :: rest) l H acc m T := fun hQ => AJ.gi (dst := some t) (i_nilCheck hx) rd0 hg (k hQ)
theorem MS.lR {U T' i off : Nat} {x : Operand} {cs : List V} {d : V} (hT : ∀ w, (isAgg U).run Y.X.P w = .ok false w) (hx : evV l x = some (.ref i off)) (hi : H[i]? = some (.cells T' cs)) (hc : cs[off]? = some d) (hd : Nat.blt t Y.X.N = true) (k : MS Y ops Q rest ((t, d) :: l) H m T) : MS Y ops Q ({ dst := some t, op := .load U x, type := ty, pos := pos, after := af, guard := none } :: rest) l H m T := fun hQ => SJ.it (dst := some t) (i_loadR hT hx hc) (rd1 hi) hd (k hQ)
theorem MA.lR {U T' i off : Nat} {x : Operand} {cs : List V} {d : V} (hT : ∀ w, (isAgg U).run Y.X.P w = .ok false w) (hx : evV l x = some (.ref i off)) (hi : H[i]? = some (.cells T' cs)) (hc : cs[off]? = some d) (hg : GOk os l gd) (k : MA Y Q os rest ((t, d) :: l) H (acc ++ [([i], [])]) m T) : MA Y Q os ({ dst := some t, op := .load U x, type := ty, pos := pos, after := af, guard := gd } :: rest) l H acc m T := fun hQ => AJ.gi (dst := some t) (i_loadR hT hx hc) (rd1 hi) hg (k hQ)
theorem MS.lRA {U T' n i off : Nat} {x : Operand} {cs : List V} (hT : ∀ w, (isAgg U).run Y.X.P w = .ok true w) (hn : ∀ w, (sizeOf U).run Y.X.P w = .ok n w) (hx : evV l x = some (.ref i off)) (hi : H[i]? = some (.cells T' cs)) (hl : Nat.ble (off + n) cs.length = true) (hd : Nat.blt t Y.X.N = true) (k : MS Y ops Q rest ((t, .agg ((cs.drop off).take n)) :: l) H m T) : MS Y ops Q ({ dst := some t, op := .load U x, type := ty, pos := pos, after := af, guard := none } :: rest) l H m T := fun hQ => SJ.it (dst := some t) (i_loadRA hT hn hx hl) (rd1 hi) hd (k hQ)
theorem MA.lRA {U T' n i off : Nat} {x : Operand} {cs : List V} (hT : ∀ w, (isAgg U).run Y.X.P w = .ok true w) (hn : ∀ w, (sizeOf U).run Y.X.P w = .ok n w) (hx : evV l x = some (.ref i off)) (hi : H[i]? = some (.cells T' cs)) (hl : Nat.ble (off + n) cs.length = true) (hg : GOk os l gd) (k : MA Y Q os rest ((t, .agg ((cs.drop off).take n)) :: l) H (acc ++ [([i], [])]) m T) : MA Y Q os ({ dst := some t, op := .load U x, type := ty, pos := pos, after := af, guard := gd } :: rest) l H acc m T := fun hQ => AJ.gi (dst := some t) (i_loadRA hT hn hx hl) (rd1 hi) hg (k hQ)
theorem MS.st {U T' n i off : Nat} {x y : Operand} {cs : List V} {d : V} (hn : ∀ w, (sizeOf U).run Y.X.P w = .ok n w) (hx : evV l x = some (.ref i off)) (hy : evV l y = some d) (hi : H[i]? = some (.cells T' cs)) (h1 : d.cells.all V.one = true) (hln : d.cells.length = n) (hle : Nat.ble (off + n) cs.length = true) (k : MS Y ops Q rest (l) (H.set i (.cells T' (setAllV cs off d.cells))) m T) : MS Y ops Q ({ dst := none, op := .store U x y, type := ty, pos := pos, after := af, guard := none } :: rest) l H m T := fun hQ => SJ.it (dst := none) (i_store hn hx hy h1 hln hle) (rd1 hi) rfl (k hQ)
theorem MA.st {U T' n i off : Nat} {x y : Operand} {cs : List V} {d : V} (hn : ∀ w, (sizeOf U).run Y.X.P w = .ok n w) (hx : evV l x = some (.ref i off)) (hy : evV l y = some d) (hi : H[i]? = some (.cells T' cs)) (h1 : d.cells.all V.one = true) (hln : d.cells.length = n) (hle : Nat.ble (off + n) cs.length = true) (hg : GOk os l gd) (k : MA Y Q os rest (l) (H.set i (.cells T' (setAllV cs off d.cells))) (acc ++ [([i], [i])]) m T) : MA Y Q os ({ dst := none, op := .store U x y, type := ty, pos := pos, after := af, guard := gd } :: rest) l H acc m T := fun hQ => AJ.gi (dst := none) (i_store hn hx hy h1 hln hle) (rd1 hi) hg (k hQ)
theorem MS.bx {U : Nat} {x : Operand} {d : V} (i : Nat) (hx : evV l x = some d) (h1 : d.cells.all V.one = true) (hi : H[i]? = some .dead) (hd : Nat.blt t Y.X.N = true) (k : MS Y ops Q rest ((t, .ref i 0) :: l) (H.set i (.cells U d.cells)) m T) : MS Y ops Q ({ dst := some t, op := .box U x, type := ty, pos := pos, after := af, guard := none } :: rest) l H m T := fun hQ => SJ.it (dst := some t) (i_box hx h1) (rd1 hi) hd (k hQ)
theorem MA.bx {U : Nat} {x : Operand} {d : V} (i : Nat) (hx : evV l x = some d) (h1 : d.cells.all V.one = true) (hi : H[i]? = some .dead) (hg : GOk os l gd) (k : MA Y Q os rest ((t, .ref i 0) :: l) (H.set i (.cells U d.cells)) (acc ++ [([i], [i])]) m T) : MA Y Q os ({ dst := some t, op := .box U x, type := ty, pos := pos, after := af, guard := gd } :: rest) l H acc m T := fun hQ => AJ.gi (dst := some t) (i_box hx h1) (rd1 hi) hg (k hQ)
theorem MS.al {U : Nat} {v : Value} {vs : List Value} (i : Nat) (hz : ∀ w, (zeroValue U).run Y.X.P w = .ok v w) (hvs : v.cells = vs.toArray) (hi : H[i]? = some .dead) (hd : Nat.blt t Y.X.N = true) (k : MS Y ops Q rest ((t, .ref i 0) :: l) (H.set i (.cells U (vs.map fun u => .p (.v u)))) m T) : MS Y ops Q ({ dst := some t, op := .alloc U, type := ty, pos := pos, after := af, guard := none } :: rest) l H m T := fun hQ => SJ.it (dst := some t) (i_alloc hz hvs) (rd1 hi) hd (k hQ)
theorem MA.al {U : Nat} {v : Value} {vs : List Value} (i : Nat) (hz : ∀ w, (zeroValue U).run Y.X.P w = .ok v w) (hvs : v.cells = vs.toArray) (hi : H[i]? = some .dead) (hg : GOk os l gd) (k : MA Y Q os rest ((t, .ref i 0) :: l) (H.set i (.cells U (vs.map fun u => .p (.v u)))) (acc ++ [([i], [i])]) m T) : MA Y Q os ({ dst := some t, op := .alloc U, type := ty, pos := pos, after := af, guard := gd } :: rest) l H acc m T := fun hQ => AJ.gi (dst := some t) (i_alloc hz hvs) (rd1 hi) hg (k hQ)
theorem MS.ix {α : Type} {U E k : Nat} {e : α → List P} {x y : Operand} {K : IntKind} {j : Int} {d : V} {xs : List α} {f : α → Option R} (hT : ∀ w, (underlying U).run Y.X.P w = .ok (.slice E) w) (hE : ∀ w, (sizeOf E).run Y.X.P w = .ok k w) (hx : evV l x = some d) (hy : evV l y = some (.p (.v (.int K j)))) (hs : V.sls k e d xs) (hk : ∀ x, (e x).length = k) (hd : Nat.blt t Y.X.N = true) (k : ∀ z : α, MS Y ops Q rest ((t, .el (e z)) :: l) H (f z) T) : MS Y ops Q ({ dst := some t, op := .indexAddr U x y, type := ty, pos := pos, after := af, guard := none } :: rest) l H ((ix xs j).bind f) T := fun hQ => by
  obtain ⟨z, h1, h2⟩ := hQ.bind
  skip
  exact SJ.it (dst := some t) (i_ix hT hE hx hy hs hk (ix_some h1).1 (ix_some h1).2) rd0 hd (k _ h2)
theorem MA.ix {α : Type} {U E k : Nat} {e : α → List P} {x y : Operand} {K : IntKind} {j : Int} {d : V} {xs : List α} {f : α → Option R} (hT : ∀ w, (underlying U).run Y.X.P w = .ok (.slice E) w) (hE : ∀ w, (sizeOf E).run Y.X.P w = .ok k w) (hx : evV l x = some d) (hy : evV l y = some (.p (.v (.int K j)))) (hs : V.sls k e d xs) (hk : ∀ x, (e x).length = k) (hg : GOk os l gd) (k : ∀ z : α, MA Y Q os rest ((t, .el (e z)) :: l) H (acc ++ [([], [])]) (f z) T) : MA Y Q os ({ dst := some t, op := .indexAddr U x y, type := ty, pos := pos, after := af, guard := gd } :: rest) l H acc ((ix xs j).bind f) T := fun hQ => by
  obtain ⟨z, h1, h2⟩ := hQ.bind
  skip
  exact AJ.gi (dst := some t) (i_ix hT hE hx hy hs hk (ix_some h1).1 (ix_some h1).2) rd0 hg (k _ h2)
theorem MS.ap {α : Type} {U el k bytes i v : Nat} {e : α → List P} {z : Value} {s x : Operand} {xs ys : List α} {d : V} {f : List α → Option R} (ht : Y.X.P.underlying U = some (.slice el)) (hin : (Y.X.P.info? el).map (fun i => (i.zero, i.size, i.bytes)) = some (some z, k, bytes)) (hz : z.cells.size = k) (hk : 0 < k) (hb : Nat.ble bytes 128 = true) (hs : evV l s = some (tk k e xs i v)) (hx : evV l x = some d) (hsx : V.sls k e d ys) (ho : ∀ y, (e y).all P.one = true) (hi : H[i]? = some (.tok el k v)) (hd : Nat.blt t Y.X.N = true) (k : ∀ z : List α, MS Y ops Q rest ((t, tk k e z i (v + 1)) :: l) (H.set i (.tok el k (v + 1))) (f z) T) : MS Y ops Q ({ dst := some t, op := .call { callee := .builtin .append, args := #[s, x], argTypes := #[U, U] }, type := U, pos := pos, after := af, guard := none } :: rest) l H ((ap xs ys).bind f) T := fun hQ => by
  obtain ⟨z, h1, h2⟩ := hQ.bind
  obtain ⟨h3, rfl⟩ := ap_some h1
  exact SJ.it (dst := some t) (i_ap ht hin hz hk hs hx hsx ho (by omega) (ap_by h3 hb)) (rd1 hi) hd (k _ h2)
theorem MA.ap {α : Type} {U el k bytes i v : Nat} {e : α → List P} {z : Value} {s x : Operand} {xs ys : List α} {d : V} {f : List α → Option R} (ht : Y.X.P.underlying U = some (.slice el)) (hin : (Y.X.P.info? el).map (fun i => (i.zero, i.size, i.bytes)) = some (some z, k, bytes)) (hz : z.cells.size = k) (hk : 0 < k) (hb : Nat.ble bytes 128 = true) (hs : evV l s = some (tk k e xs i v)) (hx : evV l x = some d) (hsx : V.sls k e d ys) (ho : ∀ y, (e y).all P.one = true) (hi : H[i]? = some (.tok el k v)) (hg : GOk os l gd) (k : ∀ z : List α, MA Y Q os rest ((t, tk k e z i (v + 1)) :: l) (H.set i (.tok el k (v + 1))) (acc ++ [([i], [i])]) (f z) T) : MA Y Q os ({ dst := some t, op := .call { callee := .builtin .append, args := #[s, x], argTypes := #[U, U] }, type := U, pos := pos, after := af, guard := gd } :: rest) l H acc ((ap xs ys).bind f) T := fun hQ => by
  obtain ⟨z, h1, h2⟩ := hQ.bind
  obtain ⟨h3, rfl⟩ := ap_some h1
  exact AJ.gi (dst := some t) (i_ap ht hin hz hk hs hx hsx ho (by omega) (ap_by h3 hb)) (rd1 hi) hg (k _ h2)
theorem MS.cp {α : Type} {g : FuncId} {args : List Operand} {tys : Array TypeId} {ds : List V} {x : Option α} {dd : α → V} {f : α → Option R} (hc : ∀ z, x = some z → CP Y.X.P g ds (dd z)) (hf : ∀ args w, (callFunc g args).run Y.X.P w = .ok (.enter g args) w) (hargs : args.map (evV l) = (renL (sf []) ds).map some) (hlt : ltL 0 ds = true) (hr : ∀ z, (dd z).ren (sf []) = dd z) (hd : Nat.blt t Y.X.N = true) (k : ∀ z : α, MS Y ops Q rest ((t, dd z) :: l) H (f z) T) : MS Y ops Q ({ dst := some t, op := .call { callee := .value (.func g), args := args.toArray, argTypes := tys }, type := ty, pos := pos, after := af, guard := none } :: rest) l H (x.bind f) T := fun hQ => by
  obtain ⟨z, h1, h2⟩ := hQ.bind
  skip
  exact SJ.it (dst := some t) (It.cp (hc z h1) hf rfl hargs hlt (hr z)) rd0 hd (k _ h2)
theorem MA.cp {α : Type} {g : FuncId} {args : List Operand} {tys : Array TypeId} {ds : List V} {x : Option α} {dd : α → V} {f : α → Option R} (hc : ∀ z, x = some z → CP Y.X.P g ds (dd z)) (hf : ∀ args w, (callFunc g args).run Y.X.P w = .ok (.enter g args) w) (hargs : args.map (evV l) = (renL (sf []) ds).map some) (hlt : ltL 0 ds = true) (hr : ∀ z, (dd z).ren (sf []) = dd z) (hg : GOk os l gd) (k : ∀ z : α, MA Y Q os rest ((t, dd z) :: l) H (acc ++ [([], [])]) (f z) T) : MA Y Q os ({ dst := some t, op := .call { callee := .value (.func g), args := args.toArray, argTypes := tys }, type := ty, pos := pos, after := af, guard := gd } :: rest) l H acc (x.bind f) T := fun hQ => by
  obtain ⟨z, h1, h2⟩ := hQ.bind
  skip
  exact AJ.gi (dst := some t) (It.cp (hc z h1) hf rfl hargs hlt (hr z)) rd0 hg (k _ h2)
theorem MS.bs {α : Type} {U el k n : Nat} {z : Value} {parts : List (Nat × Operand)} {ds : List V} (xs : List α) (e : α → List P) (ht : ∀ w, (underlying U).run Y.X.P w = .ok (.slice el) w) (hk : ∀ w, (sizeOf el).run Y.X.P w = .ok k w) (hz : ∀ w, (zeroValue el).run Y.X.P w = .ok z w) (hx : evs l (parts.map (·.2)) = some ds) (hparts : parts = (parts.map (·.2)).zipIdx.map (fun p => (p.2, p.1))) (ho : (ds.all fun d => d.cells.all V.one && Nat.beq d.cells.length k) = true) (hcs : ds.flatMap V.cells = (xs.flatMap e).map .p) (hn : ds.length = xs.length) (hn' : xs.length = n) (hle : Nat.ble (xs.length * k) 16777216 = true) (hd : Nat.blt t Y.X.N = true) (k : MS Y ops Q rest ((t, vL k e xs) :: l) H m T) : MS Y ops Q ({ dst := some t, op := .buildSlice U n parts.toArray, type := ty, pos := pos, after := af, guard := none } :: rest) l H m T := fun hQ => SJ.it (dst := some t) (i_bsN xs e ht hk hz hx hparts ho hcs hn hn' hle) rd0 hd (k hQ)
theorem MA.bs {α : Type} {U el k n : Nat} {z : Value} {parts : List (Nat × Operand)} {ds : List V} (xs : List α) (e : α → List P) (ht : ∀ w, (underlying U).run Y.X.P w = .ok (.slice el) w) (hk : ∀ w, (sizeOf el).run Y.X.P w = .ok k w) (hz : ∀ w, (zeroValue el).run Y.X.P w = .ok z w) (hx : evs l (parts.map (·.2)) = some ds) (hparts : parts = (parts.map (·.2)).zipIdx.map (fun p => (p.2, p.1))) (ho : (ds.all fun d => d.cells.all V.one && Nat.beq d.cells.length k) = true) (hcs : ds.flatMap V.cells = (xs.flatMap e).map .p) (hn : ds.length = xs.length) (hn' : xs.length = n) (hle : Nat.ble (xs.length * k) 16777216 = true) (hg : GOk os l gd) (k : MA Y Q os rest ((t, vL k e xs) :: l) H (acc ++ [([], [])]) m T) : MA Y Q os ({ dst := some t, op := .buildSlice U n parts.toArray, type := ty, pos := pos, after := af, guard := gd } :: rest) l H acc m T := fun hQ => AJ.gi (dst := some t) (i_bsN xs e ht hk hz hx hparts ho hcs hn hn' hle) rd0 hg (k hQ)
theorem MS.bsT {α : Type} {U el k n : Nat} {z : Value} {parts : List (Nat × Operand)} {ds : List V} (i : Nat) (xs : List α) (e : α → List P) (ht : ∀ w, (underlying U).run Y.X.P w = .ok (.slice el) w) (hk : ∀ w, (sizeOf el).run Y.X.P w = .ok k w) (hz : ∀ w, (zeroValue el).run Y.X.P w = .ok z w) (hx : evs l (parts.map (·.2)) = some ds) (hparts : parts = (parts.map (·.2)).zipIdx.map (fun p => (p.2, p.1))) (ho : (ds.all fun d => d.cells.all V.one && Nat.beq d.cells.length k) = true) (hcs : ds.flatMap V.cells = (xs.flatMap e).map .p) (hn : ds.length = xs.length) (hn' : xs.length = n) (hle : Nat.ble (xs.length * k) 16777216 = true) (hm : Nat.ble xs.length 16777216 = true) (hi : H[i]? = some .dead) (hd : Nat.blt t Y.X.N = true) (k : MS Y ops Q rest ((t, tk k e xs i 0) :: l) (H.set i (.tok el k 0)) m T) : MS Y ops Q ({ dst := some t, op := .buildSlice U n parts.toArray, type := ty, pos := pos, after := af, guard := none } :: rest) l H m T := fun hQ => SJ.it (dst := some t) (i_bsTN (i := i) xs e ht hk hz hx hparts ho hcs hn hn' hle hm) (rd1 hi) hd (k hQ)
theorem MA.bsT {α : Type} {U el k n : Nat} {z : Value} {parts : List (Nat × Operand)} {ds : List V} (i : Nat) (xs : List α) (e : α → List P) (ht : ∀ w, (underlying U).run Y.X.P w = .ok (.slice el) w) (hk : ∀ w, (sizeOf el).run Y.X.P w = .ok k w) (hz : ∀ w, (zeroValue el).run Y.X.P w = .ok z w) (hx : evs l (parts.map (·.2)) = some ds) (hparts : parts = (parts.map (·.2)).zipIdx.map (fun p => (p.2, p.1))) (ho : (ds.all fun d => d.cells.all V.one && Nat.beq d.cells.length k) = true) (hcs : ds.flatMap V.cells = (xs.flatMap e).map .p) (hn : ds.length = xs.length) (hn' : xs.length = n) (hle : Nat.ble (xs.length * k) 16777216 = true) (hm : Nat.ble xs.length 16777216 = true) (hi : H[i]? = some .dead) (hg : GOk os l gd) (k : MA Y Q os rest ((t, tk k e xs i 0) :: l) (H.set i (.tok el k 0)) (acc ++ [([i], [i])]) m T) : MA Y Q os ({ dst := some t, op := .buildSlice U n parts.toArray, type := ty, pos := pos, after := af, guard := gd } :: rest) l H acc m T := fun hQ => AJ.gi (dst := some t) (i_bsTN (i := i) xs e ht hk hz hx hparts ho hcs hn hn' hle hm) (rd1 hi) hg (k hQ)
theorem MS.bu {U : Nat} {zs : List Value} {parts : List (Nat × Operand)} {ds out : List V} {pl : List (Nat × Nat)} (hb : ∀ (c : Array Value) (ps : List (Nat × Value)) (w : World), Instr.fill (fun i => pl[i]?) zs.toArray ps = some c → (Instr.build U ps.toArray).run Y.X.P w = .ok (.agg c) w) (hx : evs l (parts.map (·.2)) = some ds) (ho : (((parts.map (·.1)).zip ds).all fun q => q.2.cells.all V.one) = true) (hf : fillV pl (zs.map fun v => .p (.v v)) ((parts.map (·.1)).zip ds) = some out) (hd : Nat.blt t Y.X.N = true) (k : MS Y ops Q rest ((t, .agg out) :: l) H m T) : MS Y ops Q ({ dst := some t, op := .build U parts.toArray, type := ty, pos := pos, after := af, guard := none } :: rest) l H m T := fun hQ => SJ.it (dst := some t) (i_build hb (evs_map hx) ho hf) rd0 hd (k hQ)
theorem MA.bu {U : Nat} {zs : List Value} {parts : List (Nat × Operand)} {ds out : List V} {pl : List (Nat × Nat)} (hb : ∀ (c : Array Value) (ps : List (Nat × Value)) (w : World), Instr.fill (fun i => pl[i]?) zs.toArray ps = some c → (Instr.build U ps.toArray).run Y.X.P w = .ok (.agg c) w) (hx : evs l (parts.map (·.2)) = some ds) (ho : (((parts.map (·.1)).zip ds).all fun q => q.2.cells.all V.one) = true) (hf : fillV pl (zs.map fun v => .p (.v v)) ((parts.map (·.1)).zip ds) = some out) (hg : GOk os l gd) (k : MA Y Q os rest ((t, .agg out) :: l) H (acc ++ [([], [])]) m T) : MA Y Q os ({ dst := some t, op := .build U parts.toArray, type := ty, pos := pos, after := af, guard := gd } :: rest) l H acc m T := fun hQ => AJ.gi (dst := some t) (i_build hb (evs_map hx) ho hf) rd0 hg (k hQ)
theorem MS.pickT {c x y : Operand} {d : V} (hc : evV l c = some (vB true)) (h : evV l x = some d) (hd : Nat.blt t Y.X.N = true) (k : MS Y ops Q rest ((t, d) :: l) H m T) : MS Y ops Q ({ dst := some t, op := .pick c x y, type := ty, pos := pos, after := af, guard := none } :: rest) l H m T := fun hQ => SJ.it (dst := some t) (i_pickT hc h) rd0 hd (k hQ)
theorem MA.pickT {c x y : Operand} {d : V} (hc : evV l c = some (vB true)) (h : evV l x = some d) (hg : GOk os l gd) (k : MA Y Q os rest ((t, d) :: l) H (acc ++ [([], [])]) m T) : MA Y Q os ({ dst := some t, op := .pick c x y, type := ty, pos := pos, after := af, guard := gd } :: rest) l H acc m T := fun hQ => AJ.gi (dst := some t) (i_pickT hc h) rd0 hg (k hQ)
theorem MS.pickF {c x y : Operand} {d : V} (hc : evV l c = some (vB false)) (h : evV l y = some d) (hd : Nat.blt t Y.X.N = true) (k : MS Y ops Q rest ((t, d) :: l) H m T) : MS Y ops Q ({ dst := some t, op := .pick c x y, type := ty, pos := pos, after := af, guard := none } :: rest) l H m T := fun hQ => SJ.it (dst := some t) (i_pickF hc h) rd0 hd (k hQ)
theorem MA.pickF {c x y : Operand} {d : V} (hc : evV l c = some (vB false)) (h : evV l y = some d) (hg : GOk os l gd) (k : MA Y Q os rest ((t, d) :: l) H (acc ++ [([], [])]) m T) : MA Y Q os ({ dst := some t, op := .pick c x y, type := ty, pos := pos, after := af, guard := gd } :: rest) l H acc m T := fun hQ => AJ.gi (dst := some t) (i_pickF hc h) rd0 hg (k hQ)
theorem MS.cv {S U : TypeId} {i i' : IntKind} {x : Operand} {n : Int} (hS : ∀ w, (underlying S).run Y.X.P w = .ok (.int i) w) (hU : ∀ w, (underlying U).run Y.X.P w = .ok (.int i') w) (hx : evV l x = some (.p (.v (.int i n)))) (hd : Nat.blt t Y.X.N = true) (k : MS Y ops Q rest ((t, .p (.v (.int i' (i'.wrap n)))) :: l) H m T) : MS Y ops Q ({ dst := some t, op := .convert S U x, type := ty, pos := pos, after := af, guard := none } :: rest) l H m T := fun hQ => SJ.it (dst := some t) (i_convW hS hU hx) rd0 hd (k hQ)
theorem MA.cv {S U : TypeId} {i i' : IntKind} {x : Operand} {n : Int} (hS : ∀ w, (underlying S).run Y.X.P w = .ok (.int i) w) (hU : ∀ w, (underlying U).run Y.X.P w = .ok (.int i') w) (hx : evV l x = some (.p (.v (.int i n)))) (hg : GOk os l gd) (k : MA Y Q os rest ((t, .p (.v (.int i' (i'.wrap n)))) :: l) H (acc ++ [([], [])]) m T) : MA Y Q os ({ dst := some t, op := .convert S U x, type := ty, pos := pos, after := af, guard := gd } :: rest) l H acc m T := fun hQ => AJ.gi (dst := some t) (i_convW hS hU hx) rd0 hg (k hQ)
end
end Go.Dp
namespace Go.Dp
open Go Go.Mi Go.RowKit
def bx (s : ByteArray) (j : Int) : Option Int := if 0 ≤ j then (s[j.toNat]?).map (fun b => (b.toNat : Int)) else none
def sx (s : ByteArray) (l h : Int) : Option ByteArray := if 0 ≤ l ∧ l ≤ h ∧ h ≤ s.size then some (s.extract l.toNat h.toNat) else none
def ct (a b : ByteArray) : Option ByteArray := if a.size + b.size ≤ 1099511627776 then some (a ++ b) else none
def lx {α : Type} (xs : List α) (l h : Int) : Option (List α) := if 0 ≤ l ∧ l ≤ h ∧ h ≤ xs.length then some ((xs.drop l.toNat).take (h.toNat - l.toNat)) else none
theorem sx_some {s z : ByteArray} {l h : Int} (e : sx s l h = some z) : (0 ≤ l ∧ l ≤ h ∧ h ≤ s.size) ∧ z = s.extract l.toNat h.toNat := by
  unfold sx at e; split at e
  · cases e; exact ⟨by assumption, rfl⟩
  · cases e
theorem lx_some {α : Type} {xs zs : List α} {l h : Int} (e : lx xs l h = some zs) : (0 ≤ l ∧ l ≤ h ∧ h ≤ xs.length) ∧ zs = (xs.drop l.toNat).take (h.toNat - l.toNat) := by
  unfold lx at e; split at e
  · cases e; exact ⟨by assumption, rfl⟩
  · cases e
def l3 {α : Type} (xs : List α) (l h q : Int) : Option (List α) := if h ≤ q ∧ q ≤ xs.length then lx xs l h else none
theorem bx_some {s : ByteArray} {j z : Int} (h : bx s j = some z) : 0 ≤ j ∧ ∃ b : UInt8, s[j.toNat]? = some b ∧ z = b.toNat := by
  unfold bx at h; split at h
  · cases hb : s[j.toNat]? with
    | none => rw [hb] at h; cases h
    | some b => rw [hb] at h; cases h; exact ⟨by assumption, b, rfl, rfl⟩
  · cases h
theorem beq_bytes (a b : ByteArray) : (a.toList == b.toList) = decide (a = b) := by
  rw [ByteArray.toList_eq, ByteArray.toList_eq]
  by_cases e : a = b
  · subst e; simp
  · simp only [e, decide_false]
    refine beq_eq_false_iff_ne.2 fun h => e (ByteArray.ext (Array.toList_inj.1 h))
theorem flat_drop {α : Type} {k : Nat} {e : α → List P} (hk : ∀ x, (e x).length = k) : ∀ (xs : List α) (n : Nat), (xs.flatMap e).drop (n * k) = (xs.drop n).flatMap e
  | xs, 0 => by simp
  | [], n + 1 => by simp
  | x :: xs, n + 1 => by
    rw [List.flatMap_cons, List.drop_succ_cons, ← flat_drop hk xs n, Nat.add_mul, Nat.one_mul, Nat.add_comm, ← List.drop_drop]
    congr 1
    rw [← hk x]; simp
theorem flat_take {α : Type} {k : Nat} {e : α → List P} (hk : ∀ x, (e x).length = k) : ∀ (xs : List α) (n : Nat), (xs.flatMap e).take (n * k) = (xs.take n).flatMap e
  | xs, 0 => by simp
  | [], n + 1 => by simp
  | x :: xs, n + 1 => by
    rw [List.flatMap_cons, List.take_succ_cons, List.flatMap_cons, ← flat_take hk xs n, Nat.add_mul, Nat.one_mul, Nat.add_comm, List.take_append, hk x, List.take_of_length_le (by rw [hk]; omega), show k + n * k - k = n * k by omega]
theorem flat_len {α : Type} {k : Nat} {e : α → List P} (hk : ∀ x, (e x).length = k) (xs : List α) : (xs.flatMap e).length = xs.length * k := by
  induction xs with
  | nil => simp
  | cons x xs ih => rw [List.flatMap_cons, List.length_append, ih, hk, List.length_cons, Nat.add_mul]; omega
section
variable {Pg : Program} {ty : TypeId} {ρ : Operand → Option V}
section
variable {T U : TypeId} {x y : Operand} {a b : ByteArray}
theorem i_eqS (hx : ρ x = some (vS a)) (hy : ρ y = some (vS b)) : It Pg (.binOp .eql T x y U) ty ρ [] [] (vB (decide (a = b))) :=
  i_bin hx hy fun w' => by simp [Sem.run_bind, eqGuard_string, Result.andThen, binOp, Op.stringOp, beq_bytes]
theorem i_neS (hx : ρ x = some (vS a)) (hy : ρ y = some (vS b)) : It Pg (.binOp .neq T x y U) ty ρ [] [] (vB (!decide (a = b))) :=
  i_bin hx hy fun w' => by simp [Sem.run_bind, eqGuard_string, Result.andThen, binOp, Op.stringOp, beq_bytes]
end
theorem i_lenS {T : TypeId} {x : Operand} {s : ByteArray} (hT : ∀ w, (underlying T).run Pg w = .ok .string w) (hx : ρ x = some (vS s)) : It Pg (.call { callee := .builtin .len, args := #[x], argTypes := #[T] }) ty ρ [] [] (vI s.size) := .pure fun g w H e q hq _ _ h => by
  have e1 := (h x (by simp [Op.operands, Call.operands]) _ hx).vi
  exact ⟨_, by unfold execOp; rw [hq]; simp [resolve, invoke, builtin, Builtin.len_, e1, hT, Sem.run_bind, Result.andThen, goInt], .v _⟩
theorem i_bx {T : TypeId} {x y : Operand} {s : ByteArray} {K : IntKind} {j z : Int} (hT : ∀ w, (underlying T).run Pg w = .ok .string w) (hx : ρ x = some (vS s)) (hy : ρ y = some (.p (.v (.int K j)))) (h : bx s j = some z) : It Pg (.index T x y) ty ρ [] [] (v8 z) := .plain fun w e o ho _ hf => by
  have e1 := hf x (by simp [Op.operands]) _ hx
  have e2 := hf y (by simp [Op.operands]) _ hy
  obtain ⟨h0, b, hb, rfl⟩ := bx_some h
  unfold execOp; rw [ho]; simp [e1, e2, Instr.index, asIntOf, hT, Sem.run_bind, Result.andThen, h0, hb]
def bnd (ρ : Operand → Option V) : Option Operand → Int → Prop
  | some x, n => ∃ K, ρ x = some (.p (.v (.int K n)))
  | none, _ => True
theorem i_sx {T : TypeId} {x : Operand} {lo hi : Option Operand} {s z : ByteArray} {l h : Int} (hT : ∀ w, (underlying T).run Pg w = .ok .string w) (hx : ρ x = some (vS s)) (hl : ∀ y, lo = some y → ∃ K, ρ y = some (.p (.v (.int K l)))) (hl0 : lo = none → l = 0) (hh : ∀ y, hi = some y → ∃ K, ρ y = some (.p (.v (.int K h)))) (hh0 : hi = none → h = s.size) (e : sx s l h = some z) :
    It Pg (.slice T x lo hi none) ty ρ [] [] (vS z) := .plain fun w ev o ho _ hf => by
  have e1 := hf x (by simp [Op.operands]) _ hx
  obtain ⟨⟨h1, h2, h3⟩, rfl⟩ := sx_some e
  have hL : ∀ y, lo = some y → ∃ K, ev y = .int K l := fun y hy => by obtain ⟨K, hK⟩ := hl y hy; exact ⟨K, hf y (by simp [Op.operands, hy]) _ hK⟩
  have hH : ∀ y, hi = some y → ∃ K, ev y = .int K h := fun y hy => by obtain ⟨K, hK⟩ := hh y hy; exact ⟨K, hf y (by simp [Op.operands, hy]) _ hK⟩
  have h5 : (h.toNat : Int) = h := Int.toNat_of_nonneg (by omega)
  unfold execOp; rw [ho]
  cases lo with
  | none =>
    have := hl0 rfl; subst this
    cases hi with
    | none =>
      have := hh0 rfl; subst this
      simp [e1, Instr.sliceAt, Instr.slice, Instr.sliceBounds, hT, Sem.run_bind, Result.andThen]
    | some y =>
      obtain ⟨K, hK⟩ := hH y rfl
      simp [e1, hK, Instr.sliceAt, Instr.slice, Instr.sliceBounds, Instr.sliceBound, asIntOf, hT, Sem.run_bind, Result.andThen, h2, h3]
  | some x' =>
    obtain ⟨K', hK'⟩ := hL x' rfl
    cases hi with
    | none =>
      have := hh0 rfl; subst this
      simp [e1, hK', Instr.sliceAt, Instr.slice, Instr.sliceBounds, Instr.sliceBound, asIntOf, hT, Sem.run_bind, Result.andThen, h1, h2]
    | some y =>
      obtain ⟨K, hK⟩ := hH y rfl
      simp [e1, hK, hK', Instr.sliceAt, Instr.slice, Instr.sliceBounds, Instr.sliceBound, asIntOf, hT, Sem.run_bind, Result.andThen, h1, h2, h3, show (0 : Int) ≤ h by omega, h5]
theorem bnds_run {lo hi mx : Option Operand} {ev : Operand → Value} {n cap l h q : Nat} (hl : ∀ y, lo = some y → ∃ K, ev y = .int K l) (hl0 : lo = none → l = 0) (hh : ∀ y, hi = some y → ∃ K, ev y = .int K h) (hh0 : hi = none → h = n ∧ mx = none) (hm : ∀ y, mx = some y → ∃ K, ev y = .int K q) (hm0 : mx = none → q = cap)
    (h1 : l ≤ h) (h2 : h ≤ q) (h3 : q ≤ cap) (w : World) : (Instr.sliceBounds true n cap (lo.map ev) (hi.map ev) (mx.map ev)).run Pg w = .ok (l, h, q) w := by
  unfold Instr.sliceBounds
  cases mx with
  | none =>
    have := hm0 rfl; subst this
    cases hi with
    | none =>
      obtain ⟨rfl, _⟩ := hh0 rfl
      cases lo with
      | none => have := hl0 rfl; subst this; simp [Sem.run_bind, Result.andThen]
      | some x => obtain ⟨K, hK⟩ := hl x rfl; simp [hK, Instr.sliceBound, asIntOf, Sem.run_bind, Result.andThen, h1]
    | some y =>
      obtain ⟨K, hK⟩ := hh y rfl
      cases lo with
      | none => have := hl0 rfl; subst this; simp [hK, Instr.sliceBound, asIntOf, Sem.run_bind, Result.andThen, h2]
      | some x => obtain ⟨K', hK'⟩ := hl x rfl; simp [hK, hK', Instr.sliceBound, asIntOf, Sem.run_bind, Result.andThen, h1, h2]
  | some z =>
    obtain ⟨J, hJ⟩ := hm z rfl
    cases hi with
    | none => exact absurd (hh0 rfl).2 (by simp)
    | some y =>
      obtain ⟨K, hK⟩ := hh y rfl
      cases lo with
      | none => have := hl0 rfl; subst this; simp [hJ, hK, Instr.sliceBound, asIntOf, Sem.run_bind, Result.andThen, h2, h3]
      | some x => obtain ⟨K', hK'⟩ := hl x rfl; simp [hJ, hK, hK', Instr.sliceBound, asIntOf, Sem.run_bind, Result.andThen, h1, h2, h3]
/-- a part of a list; with a third index no greater one than its length -/
theorem i_lx {α : Type} {T E k : Nat} {e : α → List P} {x : Operand} {lo hi mx : Option Operand} {d : V} {xs zs : List α} {l h q : Int} (hT : ∀ w, (underlying T).run Pg w = .ok (.slice E) w) (hE : ∀ w, (sizeOf E).run Pg w = .ok k w) (hx : ρ x = some d) (hd : V.sls k e d xs) (hk : ∀ x, (e x).length = k)
    (hl : ∀ y, lo = some y → ∃ K, ρ y = some (.p (.v (.int K l)))) (hl0 : lo = none → l = 0) (hh : ∀ y, hi = some y → ∃ K, ρ y = some (.p (.v (.int K h)))) (hh0 : hi = none → h = xs.length ∧ mx = none) (hm : ∀ y, mx = some y → ∃ K, ρ y = some (.p (.v (.int K q)))) (hq : mx ≠ none → h ≤ q ∧ q ≤ xs.length) (e' : lx xs l h = some zs) :
    It Pg (.slice T x lo hi mx) ty ρ [] [] (vL k e zs) := .pure fun g w H ev o ho _ _ hf => by
  have e1 := (hf x (by simp [Op.operands]) _ hx).slc hd
  obtain ⟨⟨h1, h2, h3⟩, rfl⟩ := lx_some e'
  have t1 : (l.toNat : Int) = l := Int.toNat_of_nonneg h1
  have t2 : (h.toNat : Int) = h := Int.toNat_of_nonneg (by omega)
  have hL : ∀ y, lo = some y → ∃ K, ev y = .int K (l.toNat : Int) := fun y hy => by obtain ⟨K, hK⟩ := hl y hy; exact ⟨K, by rw [t1]; exact (hf y (by simp [Op.operands, hy]) _ hK).vi⟩
  have hH : ∀ y, hi = some y → ∃ K, ev y = .int K (h.toNat : Int) := fun y hy => by obtain ⟨K, hK⟩ := hh y hy; exact ⟨K, by rw [t2]; exact (hf y (by simp [Op.operands, hy]) _ hK).vi⟩
  have key : ∀ cap : Nat, xs.length ≤ cap → ∃ m : Nat, h.toNat ≤ m ∧ m ≤ cap ∧ ∀ w, (Instr.sliceBounds true xs.length cap (lo.map ev) (hi.map ev) (mx.map ev)).run Pg w = .ok (l.toNat, h.toNat, m) w := fun cap hc => by
    cases hmx : mx with
    | none =>
      refine ⟨cap, by omega, Nat.le_refl _, fun w => ?_⟩
      exact bnds_run (q := cap) hL (fun q => by have := hl0 q; omega) hH (fun q => ⟨by have := (hh0 q).1; omega, rfl⟩) (fun y hy => by cases hy) (fun _ => rfl) (by omega) (by omega) (Nat.le_refl _) w
    | some z =>
      have hq' := hq (by rw [hmx]; simp)
      refine ⟨q.toNat, by omega, by omega, fun w => ?_⟩
      refine bnds_run (q := q.toNat) hL (fun q => by have := hl0 q; omega) hH (fun q' => by have := (hh0 q').2; rw [hmx] at this; cases this) (fun y hy => ?_) (fun q => by cases q) (by omega) (by omega) (by omega) w
      obtain ⟨K, hK⟩ := hm y (by rw [hmx]; exact hy)
      have := (hf y (by simp [Op.operands, hmx] at hy ⊢; simp [hy]) _ hK).vi
      exact ⟨K, by rw [this]; congr 1; omega⟩
  rcases e1.row with ⟨he, hn, _⟩ | ⟨b, of, cap, us, he, hc, hEb, hb, hlen, hrp, hu⟩
  · have hx0 : xs = [] := List.eq_nil_of_length_eq_zero hn
    obtain ⟨m, m1, m2, m3⟩ := key 0 (by omega)
    have l0 : l.toNat = 0 := by omega
    have h0 : h.toNat = 0 := by omega
    have m0 : m = 0 := by omega
    refine ⟨.slice none 0 0, ?_, ?_⟩
    · unfold execOp; rw [ho]
      subst hx0
      simp only [List.length_nil, l0, h0, m0] at m3
      simp [he, Instr.sliceAt, Instr.slice, hT, hE, m3, Sem.run_bind, Result.andThen]
    · subst hx0
      simp only [List.drop_nil, List.take_nil]
      exact .p .nil
  · obtain ⟨m, m1, m2, m3⟩ := key cap hc
    refine ⟨.slice (some (if m = l.toNat then ⟨b, of, none⟩ else (Addr.mk b of none).add (l.toNat * k))) (h.toNat - l.toNat) (m - l.toNat), ?_, ?_⟩
    · unfold execOp; rw [ho]
      have hmap : (if m = l.toNat then some (Addr.mk b of none) else (some (Addr.mk b of none)).map (·.add (l.toNat * k))) = some (if m = l.toNat then ⟨b, of, none⟩ else (Addr.mk b of none).add (l.toNat * k)) := by split <;> rfl
      simp only [he, Instr.sliceAt, Instr.slice, hT, hE, m3, Sem.run_bind, Result.andThen, Sem.run_pure, hmap]
    · have hle : h.toNat ≤ xs.length := by omega
      have hzl : ((xs.drop l.toNat).take (h.toNat - l.toNat)).length = h.toNat - l.toNat := by simp; omega
      have hfl : ((xs.drop l.toNat).take (h.toNat - l.toNat)).flatMap e = ((xs.flatMap e).drop (l.toNat * k)).take ((h.toNat - l.toNat) * k) := by rw [flat_drop hk, flat_take hk]
      have hbase : ∃ of', (if m = l.toNat then (Addr.mk b of none) else (Addr.mk b of none).add (l.toNat * k)) = ⟨b, of', none⟩ ∧ (h.toNat = l.toNat ∧ of' = of ∨ of' = of + l.toNat * k) := by
        split
        · exact ⟨of, rfl, .inl ⟨by omega, rfl⟩⟩
        · exact ⟨of + l.toNat * k, by rw [addr_add], .inr rfl⟩
      obtain ⟨of', ho', hor⟩ := hbase
      rw [ho']
      have hmul : h.toNat * k ≤ xs.length * k := Nat.mul_le_mul_right k hle
      have hmul2 : l.toNat * k + (h.toNat - l.toNat) * k = h.toNat * k := by rw [← Nat.add_mul]; congr 1; omega
      refine .p ?_
      show RP g.E w (.sl k _ _) _
      rw [hzl]
      refine RPs.sl (us := (us.drop (l.toNat * k)).take ((h.toNat - l.toNat) * k)) ?_ ?_ (by omega) ?_ hb fun j u hj => ?_
      · rw [hfl]; exact (hrp.drop _).take _
      · have h7 := hrp.1
        have h8 := hlen
        first | rw [hfl, List.length_take, List.length_drop] | rw [List.length_take, List.length_drop]
        omega
      · rcases hor with ⟨hz, ho2⟩ | ho2
        · rw [ho2, hz, Nat.sub_self, Nat.zero_mul]; omega
        · rw [ho2]; omega
      · rcases hor with ⟨hz, ho2⟩ | ho2
        · rw [hz, Nat.sub_self, Nat.zero_mul, List.take_zero] at hj; cases hj
        · rw [List.getElem?_take] at hj
          split at hj
          · rw [List.getElem?_drop] at hj
            rw [ho2, Nat.add_assoc]; exact hu _ _ hj
          · cases hj
theorem i_negW {T : TypeId} {x : Operand} {k : IntKind} {n : Int} (hx : ρ x = some (.p (.v (.int k n)))) : It Pg (.unOp .neg T x) ty ρ [] [] (.p (.v (.int k (k.wrap (-n))))) := .plain fun w e o ho _ hf => by
  have e1 := hf x (by simp [Op.operands]) _ hx
  unfold execOp; rw [ho]; simp [e1, Op.unary, Op.intArith, Sem.run_bind, Result.andThen]
end
end Go.Dp
