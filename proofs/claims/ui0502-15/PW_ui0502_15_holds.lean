import PyProof.Rows.All
import Wide.All
import OpenK.AllK
import Wide.FinOn
import KE.KTryMore
import KE.BytesMake
import PyProof.Rows.RuleM_int
import PyProof.Rows.RuleB_and
import PySem.Challenge.RW_ui0502_15
set_option Elab.async false
set_option maxRecDepth 100000
set_option maxHeartbeats 8000000
-- part T15h
namespace Mine
open PySem PySem.W PyProof.Rows
section
noncomputable def sAt (i : Nat) : Stmt := match PySem.Challenge.pw_ui0502_15.main.body[i]? with | some s => s | none => .Pass ⟨0, 0, 0, 0⟩
noncomputable def cB : Stmt → List Stmt
  | .ClassDef _ _ _ b _ _ _ _ _ _ _ => b
  | _ => []
noncomputable def sIn (i j : Nat) : Stmt := match (cB (sAt i))[j]? with | some s => s | none => .Pass ⟨0, 0, 0, 0⟩
noncomputable def fP : Stmt → Arguments
  | .FunctionDef _ a _ _ _ _ _ _ _ _ => a
  | _ => ⟨[], [], none, [], [], none, []⟩
noncomputable def fB : Stmt → List Stmt
  | .FunctionDef _ _ b _ _ _ _ _ _ _ => b
  | _ => []
noncomputable def fS : Stmt → Scope
  | .FunctionDef _ _ _ _ _ _ s _ _ _ => s
  | _ => { kind := .function, names := [], isGenerator := false, isCoroutine := false }
noncomputable def hd.heap_39 : Params → Frag := fun P => [(2, { cls := PySem.Value.none, data := PySem.Data.dict #[] }),
  (3, { cls := PySem.Value.type "dict", data := PySem.Data.dict #[{ hash := PySem.PyData.keyHash P (PySem.Str.ofString "__name__"), key := PySem.Value.str (PySem.Str.ofString "__name__") 165, val := PySem.Value.str (PySem.Str.ofString "law_ui0502_15") 588 }, { hash := PySem.PyData.keyHash P (PySem.Str.ofString "__doc__"), key := PySem.Value.str (PySem.Str.ofString "__doc__") 166, val := PySem.Value.none }, { hash := PySem.PyData.keyHash P (PySem.Str.ofString "__package__"), key := PySem.Value.str (PySem.Str.ofString "__package__") 167, val := PySem.Value.none }, { hash := PySem.PyData.keyHash P (PySem.Str.ofString "__loader__"), key := PySem.Value.str (PySem.Str.ofString "__loader__") 168, val := PySem.Value.builtin "__main__.__loader__#opaque" }, { hash := PySem.PyData.keyHash P (PySem.Str.ofString "__spec__"), key := PySem.Value.str (PySem.Str.ofString "__spec__") 169, val := PySem.Value.none }, { hash := PySem.PyData.keyHash P (PySem.Str.ofString "__annotations__"), key := PySem.Value.str (PySem.Str.ofString "__annotations__") 170, val := PySem.Value.ref 6 }, { hash := PySem.PyData.keyHash P (PySem.Str.ofString "__builtins__"), key := PySem.Value.str (PySem.Str.ofString "__builtins__") 171, val := PySem.Value.ref 4 }, { hash := PySem.PyData.keyHash P (PySem.Str.ofString "__file__"), key := PySem.Value.str (PySem.Str.ofString "__file__") 173, val := PySem.Value.str (PySem.Str.ofString "/claim/cut.py") 172 }, { hash := PySem.PyData.keyHash P (PySem.Str.ofString "__cached__"), key := PySem.Value.str (PySem.Str.ofString "__cached__") 174, val := PySem.Value.none }, { hash := PySem.PyData.keyHash P (PySem.Str.ofString "_wall"), key := PySem.Value.str (PySem.Str.ofString "_wall") 193, val := PySem.Value.ref 21 }, { hash := PySem.PyData.keyHash P (PySem.Str.ofString "PackError"), key := PySem.Value.str (PySem.Str.ofString "PackError") 213, val := PySem.Value.ref 31 }, { hash := PySem.PyData.keyHash P (PySem.Str.ofString "shown"), key := PySem.Value.str (PySem.Str.ofString "shown") 220, val := PySem.Value.ref 41 }, { hash := PySem.PyData.keyHash P (PySem.Str.ofString "need_number"), key := PySem.Value.str (PySem.Str.ofString "need_number") 230, val := PySem.Value.ref 48 }, { hash := PySem.PyData.keyHash P (PySem.Str.ofString "shapes"), key := PySem.Value.str (PySem.Str.ofString "shapes") 245, val := PySem.Value.ref 55 }, { hash := PySem.PyData.keyHash P (PySem.Str.ofString "Trees"), key := PySem.Value.str (PySem.Str.ofString "Trees") 333, val := PySem.Value.ref 105 }, { hash := PySem.PyData.keyHash P (PySem.Str.ofString "planes_of"), key := PySem.Value.str (PySem.Str.ofString "planes_of") 339, val := PySem.Value.ref 114 }, { hash := PySem.PyData.keyHash P (PySem.Str.ofString "write_plane"), key := PySem.Value.str (PySem.Str.ofString "write_plane") 358, val := PySem.Value.ref 121 }, { hash := PySem.PyData.keyHash P (PySem.Str.ofString "read_plane"), key := PySem.Value.str (PySem.Str.ofString "read_plane") 374, val := PySem.Value.ref 128 }, { hash := PySem.PyData.keyHash P (PySem.Str.ofString "middled"), key := PySem.Value.str (PySem.Str.ofString "middled") 380, val := PySem.Value.ref 133 }, { hash := PySem.PyData.keyHash P (PySem.Str.ofString "TOP"), key := PySem.Value.str (PySem.Str.ofString "TOP") 386, val := PySem.Value.int 16777216 385 }, { hash := PySem.PyData.keyHash P (PySem.Str.ofString "HALF"), key := PySem.Value.str (PySem.Str.ofString "HALF") 389, val := PySem.Value.int 8388608 388 }, { hash := PySem.PyData.keyHash P (PySem.Str.ofString "QUARTER"), key := PySem.Value.str (PySem.Str.ofString "QUARTER") 392, val := PySem.Value.int 4194304 391 }, { hash := PySem.PyData.keyHash P (PySem.Str.ofString "MOST"), key := PySem.Value.str (PySem.Str.ofString "MOST") 394, val := PySem.Value.int 256 393 }, { hash := PySem.PyData.keyHash P (PySem.Str.ofString "Model"), key := PySem.Value.str (PySem.Str.ofString "Model") 452, val := PySem.Value.ref 171 }, { hash := PySem.PyData.keyHash P (PySem.Str.ofString "Writer"), key := PySem.Value.str (PySem.Str.ofString "Writer") 514, val := PySem.Value.ref 213 }, { hash := PySem.PyData.keyHash P (PySem.Str.ofString "Reader"), key := PySem.Value.str (PySem.Str.ofString "Reader") 569, val := PySem.Value.ref 248 }, { hash := PySem.PyData.keyHash P (PySem.Str.ofString "plain_bits"), key := PySem.Value.str (PySem.Str.ofString "plain_bits") 577, val := PySem.Value.ref 257 }, { hash := PySem.PyData.keyHash P (PySem.Str.ofString "plain_cut_down"), key := PySem.Value.str (PySem.Str.ofString "plain_cut_down") 587, val := PySem.Value.ref 264 }, { hash := PySem.PyData.keyHash P (PySem.Str.ofString "_law_cell"), key := PySem.Value.str (PySem.Str.ofString "_law_cell") 597, val := PySem.Value.ref 271 }, { hash := PySem.PyData.keyHash P (PySem.Str.ofString "law"), key := PySem.Value.str (PySem.Str.ofString "law") 603, val := PySem.Value.ref 276 }] 30 }),
  (15, { cls := PySem.Value.type "tuple", data := PySem.Data.seq #[] }),
  (17, { cls := PySem.Value.type "tuple", data := PySem.Data.seq #[PySem.Value.str (PySem.Str.ofString "k") 190] }),
  (18, { cls := PySem.Value.type "tuple", data := PySem.Data.seq #[] }),
  (20, { cls := PySem.Value.type "code", data := PySem.Data.fields #[PySem.Value.str (PySem.Str.ofString "_wall") 187, PySem.Value.str (PySem.Str.ofString "_wall") 188, PySem.Value.str (PySem.Str.ofString "/claim/cut.py") 189, PySem.Value.int 1 0, PySem.Value.int 1 0, PySem.Value.int 0 0, PySem.Value.int 0 0, PySem.Value.int 3 0, PySem.Value.ref 15, PySem.Value.bool true, PySem.Value.int 181 0, PySem.Value.ref 16, PySem.Value.none, PySem.Value.ref 17, PySem.Value.ref 18, PySem.Value.ref 19, PySem.Value.int 191 0, PySem.Value.int 1 0, PySem.Value.str (PySem.Str.ofString "/claim/cut.py") 192] }),
  (21, { cls := PySem.Value.type "function", data := PySem.Data.func { name := PySem.Str.ofString "_wall", qualname := PySem.Str.ofString "_wall", params := fP (sAt 0), body := PySem.FuncBody.stmts (fB (sAt 0)), scope := fS (sAt 0), globals := 3, closure := [], defaults := PySem.Value.none, kwdefaults := PySem.Value.none, pyModule := PySem.Value.str (PySem.Str.ofString "__main__") 164, code := PySem.Value.ref 20 } }),
  (22, { cls := PySem.Value.type "tuple", data := PySem.Data.seq #[PySem.Value.type "ValueError"] }),
  (29, { cls := PySem.Value.type "tuple", data := PySem.Data.seq #[] }),
  (30, { cls := PySem.Value.type "dict", data := PySem.Data.dict #[{ hash := PySem.PyData.keyHash P (PySem.Str.ofString "__module__"), key := PySem.Value.str (PySem.Str.ofString "__module__") 203, val := PySem.Value.str (PySem.Str.ofString "lifting.errors") 194 }, { hash := PySem.PyData.keyHash P (PySem.Str.ofString "__firstlineno__"), key := PySem.Value.str (PySem.Str.ofString "__firstlineno__") 207, val := PySem.Value.int 5 206 }, { hash := PySem.PyData.keyHash P (PySem.Str.ofString "__static_attributes__"), key := PySem.Value.str (PySem.Str.ofString "__static_attributes__") 208, val := PySem.Value.ref 29 }, { hash := PySem.PyData.keyHash P (PySem.Str.ofString "__weakref__"), key := PySem.Value.str (PySem.Str.ofString "__weakref__") 210, val := PySem.Value.ref 32 }, { hash := PySem.PyData.keyHash P (PySem.Str.ofString "__doc__"), key := PySem.Value.str (PySem.Str.ofString "__doc__") 211, val := PySem.Value.none }] 3 }),
  (31, { cls := PySem.Value.type "type", data := PySem.Data.cls { name := PySem.Str.ofString "PackError", bases := [PySem.Value.type "ValueError"], mro := [PySem.Value.ref 31, PySem.Value.type "ValueError", PySem.Value.type "Exception", PySem.Value.type "BaseException", PySem.Value.type "object"], ns := 30, qualname := PySem.Str.ofString "PackError" }, slots := #[some (PySem.Value.ref 22), none, some (PySem.Value.str (PySem.Str.ofString "PackError") 196), some (PySem.Value.str (PySem.Str.ofString "PackError") 204), some (PySem.Value.builtin "ValueError.__new__"), some (PySem.Value.bool true)] }),
  (32, { cls := PySem.Value.type "getset_descriptor", data := PySem.Data.fields #[PySem.Value.str (PySem.Str.ofString "__weakref__") 209, PySem.Value.ref 31, PySem.Value.builtin "ExceptionGroup.__weakref__", PySem.Value.none] }),
  (35, { cls := PySem.Value.type "tuple", data := PySem.Data.seq #[] }),
  (37, { cls := PySem.Value.type "tuple", data := PySem.Data.seq #[PySem.Value.str (PySem.Str.ofString "value") 217] }),
  (38, { cls := PySem.Value.type "tuple", data := PySem.Data.seq #[] }),
  (40, { cls := PySem.Value.type "code", data := PySem.Data.fields #[PySem.Value.str (PySem.Str.ofString "shown") 214, PySem.Value.str (PySem.Str.ofString "shown") 215, PySem.Value.str (PySem.Str.ofString "/claim/cut.py") 216, PySem.Value.int 7 0, PySem.Value.int 1 0, PySem.Value.int 0 0, PySem.Value.int 0 0, PySem.Value.int 3 0, PySem.Value.ref 35, PySem.Value.bool true, PySem.Value.int 181 0, PySem.Value.ref 36, PySem.Value.none, PySem.Value.ref 37, PySem.Value.ref 38, PySem.Value.ref 39, PySem.Value.int 218 0, PySem.Value.int 7 0, PySem.Value.str (PySem.Str.ofString "/claim/cut.py") 219] }),
  (41, { cls := PySem.Value.type "function", data := PySem.Data.func { name := PySem.Str.ofString "shown", qualname := PySem.Str.ofString "shown", params := fP (sAt 3), body := PySem.FuncBody.stmts (fB (sAt 3)), scope := fS (sAt 3), globals := 3, closure := [], defaults := PySem.Value.none, kwdefaults := PySem.Value.none, pyModule := PySem.Value.str (PySem.Str.ofString "lifting.errors") 194, code := PySem.Value.ref 40 } }),
  (42, { cls := PySem.Value.type "tuple", data := PySem.Data.seq #[] }),
  (44, { cls := PySem.Value.type "tuple", data := PySem.Data.seq #[PySem.Value.str (PySem.Str.ofString "value") 224, PySem.Value.str (PySem.Str.ofString "least") 225, PySem.Value.str (PySem.Str.ofString "most") 226, PySem.Value.str (PySem.Str.ofString "what") 227] }),
  (45, { cls := PySem.Value.type "tuple", data := PySem.Data.seq #[] }),
  (47, { cls := PySem.Value.type "code", data := PySem.Data.fields #[PySem.Value.str (PySem.Str.ofString "need_number") 221, PySem.Value.str (PySem.Str.ofString "need_number") 222, PySem.Value.str (PySem.Str.ofString "/claim/cut.py") 223, PySem.Value.int 13 0, PySem.Value.int 4 0, PySem.Value.int 0 0, PySem.Value.int 0 0, PySem.Value.int 3 0, PySem.Value.ref 42, PySem.Value.bool true, PySem.Value.int 181 0, PySem.Value.ref 43, PySem.Value.none, PySem.Value.ref 44, PySem.Value.ref 45, PySem.Value.ref 46, PySem.Value.int 228 0, PySem.Value.int 13 0, PySem.Value.str (PySem.Str.ofString "/claim/cut.py") 229] }),
  (48, { cls := PySem.Value.type "function", data := PySem.Data.func { name := PySem.Str.ofString "need_number", qualname := PySem.Str.ofString "need_number", params := fP (sAt 4), body := PySem.FuncBody.stmts (fB (sAt 4)), scope := fS (sAt 4), globals := 3, closure := [], defaults := PySem.Value.none, kwdefaults := PySem.Value.none, pyModule := PySem.Value.str (PySem.Str.ofString "lifting.errors") 194, code := PySem.Value.ref 47 } }),
  (49, { cls := PySem.Value.type "tuple", data := PySem.Data.seq #[] }),
  (51, { cls := PySem.Value.type "tuple", data := PySem.Data.seq #[PySem.Value.str (PySem.Str.ofString "width") 236, PySem.Value.str (PySem.Str.ofString "height") 237, PySem.Value.str (PySem.Str.ofString "levels") 238, PySem.Value.str (PySem.Str.ofString "bands") 239, PySem.Value.str (PySem.Str.ofString "level") 240, PySem.Value.str (PySem.Str.ofString "wide") 241, PySem.Value.str (PySem.Str.ofString "high") 242] }),
  (52, { cls := PySem.Value.type "tuple", data := PySem.Data.seq #[] }),
  (54, { cls := PySem.Value.type "code", data := PySem.Data.fields #[PySem.Value.str (PySem.Str.ofString "shapes") 233, PySem.Value.str (PySem.Str.ofString "shapes") 234, PySem.Value.str (PySem.Str.ofString "/claim/cut.py") 235, PySem.Value.int 18 0, PySem.Value.int 3 0, PySem.Value.int 0 0, PySem.Value.int 0 0, PySem.Value.int 3 0, PySem.Value.ref 49, PySem.Value.bool true, PySem.Value.int 181 0, PySem.Value.ref 50, PySem.Value.none, PySem.Value.ref 51, PySem.Value.ref 52, PySem.Value.ref 53, PySem.Value.int 243 0, PySem.Value.int 18 0, PySem.Value.str (PySem.Str.ofString "/claim/cut.py") 244] }),
  (55, { cls := PySem.Value.type "function", data := PySem.Data.func { name := PySem.Str.ofString "shapes", qualname := PySem.Str.ofString "shapes", params := fP (sAt 6), body := PySem.FuncBody.stmts (fB (sAt 6)), scope := fS (sAt 6), globals := 3, closure := [], defaults := PySem.Value.none, kwdefaults := PySem.Value.none, pyModule := PySem.Value.str (PySem.Str.ofString "lifting.waves") 231, code := PySem.Value.ref 54 } }),
  (63, { cls := PySem.Value.type "tuple", data := PySem.Data.seq #[] }),
  (66, { cls := PySem.Value.type "code", data := PySem.Data.fields #[PySem.Value.str (PySem.Str.ofString "__init__") 260, PySem.Value.str (PySem.Str.ofString "Trees.__init__") 261, PySem.Value.str (PySem.Str.ofString "/claim/cut.py") 262, PySem.Value.int 30 0, PySem.Value.int 4 0, PySem.Value.int 0 0, PySem.Value.int 0 0, PySem.Value.int 3 0, PySem.Value.ref 63, PySem.Value.bool true, PySem.Value.int 181 0, PySem.Value.ref 64, PySem.Value.none, PySem.Value.none, PySem.Value.none, PySem.Value.ref 65, PySem.Value.int 263 0, PySem.Value.int 30 0, PySem.Value.str (PySem.Str.ofString "/claim/cut.py") 264] }),
  (67, { cls := PySem.Value.type "function", data := PySem.Data.func { name := PySem.Str.ofString "__init__", qualname := PySem.Str.ofString "Trees.__init__", params := fP (sIn 8 0), body := PySem.FuncBody.stmts (fB (sIn 8 0)), scope := fS (sIn 8 0), globals := 3, closure := [], defaults := PySem.Value.none, kwdefaults := PySem.Value.none, pyModule := PySem.Value.str (PySem.Str.ofString "lifting.trees") 246, code := PySem.Value.ref 66 } }),
  (68, { cls := PySem.Value.type "tuple", data := PySem.Data.seq #[] }),
  (70, { cls := PySem.Value.type "tuple", data := PySem.Data.seq #[PySem.Value.str (PySem.Str.ofString "self") 269, PySem.Value.str (PySem.Str.ofString "key") 270, PySem.Value.str (PySem.Str.ofString "shape") 271, PySem.Value.str (PySem.Str.ofString "depth") 272, PySem.Value.str (PySem.Str.ofString "above") 273, PySem.Value.str (PySem.Str.ofString "form") 274, PySem.Value.str (PySem.Str.ofString "first") 275, PySem.Value.str (PySem.Str.ofString "width") 276, PySem.Value.str (PySem.Str.ofString "height") 277, PySem.Value.str (PySem.Str.ofString "row") 278, PySem.Value.str (PySem.Str.ofString "column") 279, PySem.Value.str (PySem.Str.ofString "above_shape") 280, PySem.Value.str (PySem.Str.ofString "halve") 281, PySem.Value.str (PySem.Str.ofString "by") 282, PySem.Value.str (PySem.Str.ofString "up") 283, PySem.Value.str (PySem.Str.ofString "left") 284] }),
  (71, { cls := PySem.Value.type "tuple", data := PySem.Data.seq #[] }),
  (73, { cls := PySem.Value.type "code", data := PySem.Data.fields #[PySem.Value.str (PySem.Str.ofString "_add") 266, PySem.Value.str (PySem.Str.ofString "Trees._add") 267, PySem.Value.str (PySem.Str.ofString "/claim/cut.py") 268, PySem.Value.int 53 0, PySem.Value.int 7 0, PySem.Value.int 0 0, PySem.Value.int 0 0, PySem.Value.int 3 0, PySem.Value.ref 68, PySem.Value.bool true, PySem.Value.int 181 0, PySem.Value.ref 69, PySem.Value.none, PySem.Value.ref 70, PySem.Value.ref 71, PySem.Value.ref 72, PySem.Value.int 285 0, PySem.Value.int 53 0, PySem.Value.str (PySem.Str.ofString "/claim/cut.py") 286] }),
  (74, { cls := PySem.Value.type "function", data := PySem.Data.func { name := PySem.Str.ofString "_add", qualname := PySem.Str.ofString "Trees._add", params := fP (sIn 8 1), body := PySem.FuncBody.stmts (fB (sIn 8 1)), scope := fS (sIn 8 1), globals := 3, closure := [], defaults := PySem.Value.none, kwdefaults := PySem.Value.none, pyModule := PySem.Value.str (PySem.Str.ofString "lifting.trees") 246, code := PySem.Value.ref 73 } }),
  (75, { cls := PySem.Value.type "tuple", data := PySem.Data.seq #[] }),
  (77, { cls := PySem.Value.type "tuple", data := PySem.Data.seq #[PySem.Value.str (PySem.Str.ofString "self") 291] }),
  (78, { cls := PySem.Value.type "tuple", data := PySem.Data.seq #[] }),
  (80, { cls := PySem.Value.type "code", data := PySem.Data.fields #[PySem.Value.str (PySem.Str.ofString "size") 288, PySem.Value.str (PySem.Str.ofString "Trees.size") 289, PySem.Value.str (PySem.Str.ofString "/claim/cut.py") 290, PySem.Value.int 68 0, PySem.Value.int 1 0, PySem.Value.int 0 0, PySem.Value.int 0 0, PySem.Value.int 3 0, PySem.Value.ref 75, PySem.Value.bool true, PySem.Value.int 181 0, PySem.Value.ref 76, PySem.Value.none, PySem.Value.ref 77, PySem.Value.ref 78, PySem.Value.ref 79, PySem.Value.int 292 0, PySem.Value.int 68 0, PySem.Value.str (PySem.Str.ofString "/claim/cut.py") 293] }),
  (81, { cls := PySem.Value.type "function", data := PySem.Data.func { name := PySem.Str.ofString "size", qualname := PySem.Str.ofString "Trees.size", params := fP (sIn 8 2), body := PySem.FuncBody.stmts (fB (sIn 8 2)), scope := fS (sIn 8 2), globals := 3, closure := [], defaults := PySem.Value.none, kwdefaults := PySem.Value.none, pyModule := PySem.Value.str (PySem.Str.ofString "lifting.trees") 246, code := PySem.Value.ref 80 } }),
  (82, { cls := PySem.Value.type "tuple", data := PySem.Data.seq #[] }),
  (84, { cls := PySem.Value.type "tuple", data := PySem.Data.seq #[PySem.Value.str (PySem.Str.ofString "self") 298, PySem.Value.str (PySem.Str.ofString "parts") 299] }),
  (85, { cls := PySem.Value.type "tuple", data := PySem.Data.seq #[] }),
  (87, { cls := PySem.Value.type "code", data := PySem.Data.fields #[PySem.Value.str (PySem.Str.ofString "flat") 295, PySem.Value.str (PySem.Str.ofString "Trees.flat") 296, PySem.Value.str (PySem.Str.ofString "/claim/cut.py") 297, PySem.Value.int 71 0, PySem.Value.int 2 0, PySem.Value.int 0 0, PySem.Value.int 0 0, PySem.Value.int 3 0, PySem.Value.ref 82, PySem.Value.bool true, PySem.Value.int 181 0, PySem.Value.ref 83, PySem.Value.none, PySem.Value.ref 84, PySem.Value.ref 85, PySem.Value.ref 86, PySem.Value.int 300 0, PySem.Value.int 71 0, PySem.Value.str (PySem.Str.ofString "/claim/cut.py") 301] }),
  (88, { cls := PySem.Value.type "function", data := PySem.Data.func { name := PySem.Str.ofString "flat", qualname := PySem.Str.ofString "Trees.flat", params := fP (sIn 8 3), body := PySem.FuncBody.stmts (fB (sIn 8 3)), scope := fS (sIn 8 3), globals := 3, closure := [], defaults := PySem.Value.none, kwdefaults := PySem.Value.none, pyModule := PySem.Value.str (PySem.Str.ofString "lifting.trees") 246, code := PySem.Value.ref 87 } }),
  (89, { cls := PySem.Value.type "tuple", data := PySem.Data.seq #[] }),
  (91, { cls := PySem.Value.type "tuple", data := PySem.Data.seq #[PySem.Value.str (PySem.Str.ofString "self") 306, PySem.Value.str (PySem.Str.ofString "values") 307] }),
  (92, { cls := PySem.Value.type "tuple", data := PySem.Data.seq #[] }),
  (94, { cls := PySem.Value.type "code", data := PySem.Data.fields #[PySem.Value.str (PySem.Str.ofString "parts") 303, PySem.Value.str (PySem.Str.ofString "Trees.parts") 304, PySem.Value.str (PySem.Str.ofString "/claim/cut.py") 305, PySem.Value.int 74 0, PySem.Value.int 2 0, PySem.Value.int 0 0, PySem.Value.int 0 0, PySem.Value.int 3 0, PySem.Value.ref 89, PySem.Value.bool true, PySem.Value.int 181 0, PySem.Value.ref 90, PySem.Value.none, PySem.Value.ref 91, PySem.Value.ref 92, PySem.Value.ref 93, PySem.Value.int 308 0, PySem.Value.int 74 0, PySem.Value.str (PySem.Str.ofString "/claim/cut.py") 309] }),
  (95, { cls := PySem.Value.type "function", data := PySem.Data.func { name := PySem.Str.ofString "parts", qualname := PySem.Str.ofString "Trees.parts", params := fP (sIn 8 4), body := PySem.FuncBody.stmts (fB (sIn 8 4)), scope := fS (sIn 8 4), globals := 3, closure := [], defaults := PySem.Value.none, kwdefaults := PySem.Value.none, pyModule := PySem.Value.str (PySem.Str.ofString "lifting.trees") 246, code := PySem.Value.ref 94 } }),
  (96, { cls := PySem.Value.type "tuple", data := PySem.Data.seq #[] }),
  (98, { cls := PySem.Value.type "tuple", data := PySem.Data.seq #[PySem.Value.str (PySem.Str.ofString "self") 314, PySem.Value.str (PySem.Str.ofString "values") 315, PySem.Value.str (PySem.Str.ofString "out") 316, PySem.Value.str (PySem.Str.ofString "k") 317, PySem.Value.str (PySem.Str.ofString "up") 318] }),
  (99, { cls := PySem.Value.type "tuple", data := PySem.Data.seq #[] }),
  (101, { cls := PySem.Value.type "code", data := PySem.Data.fields #[PySem.Value.str (PySem.Str.ofString "greatest_under") 311, PySem.Value.str (PySem.Str.ofString "Trees.greatest_under") 312, PySem.Value.str (PySem.Str.ofString "/claim/cut.py") 313, PySem.Value.int 77 0, PySem.Value.int 2 0, PySem.Value.int 0 0, PySem.Value.int 0 0, PySem.Value.int 3 0, PySem.Value.ref 96, PySem.Value.bool true, PySem.Value.int 181 0, PySem.Value.ref 97, PySem.Value.none, PySem.Value.ref 98, PySem.Value.ref 99, PySem.Value.ref 100, PySem.Value.int 319 0, PySem.Value.int 77 0, PySem.Value.str (PySem.Str.ofString "/claim/cut.py") 320] }),
  (102, { cls := PySem.Value.type "function", data := PySem.Data.func { name := PySem.Str.ofString "greatest_under", qualname := PySem.Str.ofString "Trees.greatest_under", params := fP (sIn 8 5), body := PySem.FuncBody.stmts (fB (sIn 8 5)), scope := fS (sIn 8 5), globals := 3, closure := [], defaults := PySem.Value.none, kwdefaults := PySem.Value.none, pyModule := PySem.Value.str (PySem.Str.ofString "lifting.trees") 246, code := PySem.Value.ref 101 } }),
  (103, { cls := PySem.Value.type "tuple", data := PySem.Data.seq #[PySem.Value.str (PySem.Str.ofString "children") 322, PySem.Value.str (PySem.Str.ofString "depths") 323, PySem.Value.str (PySem.Str.ofString "parents") 324, PySem.Value.str (PySem.Str.ofString "shape") 325] }),
  (104, { cls := PySem.Value.type "dict", data := PySem.Data.dict #[{ hash := PySem.PyData.keyHash P (PySem.Str.ofString "__module__"), key := PySem.Value.str (PySem.Str.ofString "__module__") 255, val := PySem.Value.str (PySem.Str.ofString "lifting.trees") 246 }, { hash := PySem.PyData.keyHash P (PySem.Str.ofString "__firstlineno__"), key := PySem.Value.str (PySem.Str.ofString "__firstlineno__") 259, val := PySem.Value.int 28 258 }, { hash := PySem.PyData.keyHash P (PySem.Str.ofString "__init__"), key := PySem.Value.str (PySem.Str.ofString "__init__") 265, val := PySem.Value.ref 67 }, { hash := PySem.PyData.keyHash P (PySem.Str.ofString "_add"), key := PySem.Value.str (PySem.Str.ofString "_add") 287, val := PySem.Value.ref 74 }, { hash := PySem.PyData.keyHash P (PySem.Str.ofString "size"), key := PySem.Value.str (PySem.Str.ofString "size") 294, val := PySem.Value.ref 81 }, { hash := PySem.PyData.keyHash P (PySem.Str.ofString "flat"), key := PySem.Value.str (PySem.Str.ofString "flat") 302, val := PySem.Value.ref 88 }, { hash := PySem.PyData.keyHash P (PySem.Str.ofString "parts"), key := PySem.Value.str (PySem.Str.ofString "parts") 310, val := PySem.Value.ref 95 }, { hash := PySem.PyData.keyHash P (PySem.Str.ofString "greatest_under"), key := PySem.Value.str (PySem.Str.ofString "greatest_under") 321, val := PySem.Value.ref 102 }, { hash := PySem.PyData.keyHash P (PySem.Str.ofString "__static_attributes__"), key := PySem.Value.str (PySem.Str.ofString "__static_attributes__") 326, val := PySem.Value.ref 103 }, { hash := PySem.PyData.keyHash P (PySem.Str.ofString "__dict__"), key := PySem.Value.str (PySem.Str.ofString "__dict__") 328, val := PySem.Value.ref 106 }, { hash := PySem.PyData.keyHash P (PySem.Str.ofString "__weakref__"), key := PySem.Value.str (PySem.Str.ofString "__weakref__") 330, val := PySem.Value.ref 107 }, { hash := PySem.PyData.keyHash P (PySem.Str.ofString "__doc__"), key := PySem.Value.str (PySem.Str.ofString "__doc__") 331, val := PySem.Value.none }] 4 }),
  (105, { cls := PySem.Value.type "type", data := PySem.Data.cls { name := PySem.Str.ofString "Trees", bases := [PySem.Value.type "object"], mro := [PySem.Value.ref 105, PySem.Value.type "object"], ns := 104, qualname := PySem.Str.ofString "Trees" }, slots := #[none, none, some (PySem.Value.str (PySem.Str.ofString "Trees") 248), some (PySem.Value.str (PySem.Str.ofString "Trees") 256), some (PySem.Value.builtin "object.__new__"), some (PySem.Value.bool true)] }),
  (106, { cls := PySem.Value.type "getset_descriptor", data := PySem.Data.fields #[PySem.Value.str (PySem.Str.ofString "__dict__") 327, PySem.Value.ref 105, PySem.Value.builtin "function.__dict__", PySem.Value.builtin "function.__dict__#set"] }),
  (107, { cls := PySem.Value.type "getset_descriptor", data := PySem.Data.fields #[PySem.Value.str (PySem.Str.ofString "__weakref__") 329, PySem.Value.ref 105, PySem.Value.builtin "ExceptionGroup.__weakref__", PySem.Value.none] }),
  (110, { cls := PySem.Value.type "tuple", data := PySem.Data.seq #[] }),
  (113, { cls := PySem.Value.type "code", data := PySem.Data.fields #[PySem.Value.str (PySem.Str.ofString "planes_of") 334, PySem.Value.str (PySem.Str.ofString "planes_of") 335, PySem.Value.str (PySem.Str.ofString "/claim/cut.py") 336, PySem.Value.int 84 0, PySem.Value.int 1 0, PySem.Value.int 0 0, PySem.Value.int 0 0, PySem.Value.int 3 0, PySem.Value.ref 110, PySem.Value.bool true, PySem.Value.int 181 0, PySem.Value.ref 111, PySem.Value.none, PySem.Value.none, PySem.Value.none, PySem.Value.ref 112, PySem.Value.int 337 0, PySem.Value.int 84 0, PySem.Value.str (PySem.Str.ofString "/claim/cut.py") 338] }),
  (114, { cls := PySem.Value.type "function", data := PySem.Data.func { name := PySem.Str.ofString "planes_of", qualname := PySem.Str.ofString "planes_of", params := fP (sAt 9), body := PySem.FuncBody.stmts (fB (sAt 9)), scope := fS (sAt 9), globals := 3, closure := [], defaults := PySem.Value.none, kwdefaults := PySem.Value.none, pyModule := PySem.Value.str (PySem.Str.ofString "lifting.trees") 246, code := PySem.Value.ref 113 } }),
  (115, { cls := PySem.Value.type "tuple", data := PySem.Data.seq #[] }),
  (117, { cls := PySem.Value.type "tuple", data := PySem.Data.seq #[PySem.Value.str (PySem.Str.ofString "writer") 343, PySem.Value.str (PySem.Str.ofString "trees") 344, PySem.Value.str (PySem.Str.ofString "values") 345, PySem.Value.str (PySem.Str.ofString "plane") 346, PySem.Value.str (PySem.Str.ofString "under") 347, PySem.Value.str (PySem.Str.ofString "bound") 348, PySem.Value.str (PySem.Str.ofString "covered") 349, PySem.Value.str (PySem.Str.ofString "k") 350, PySem.Value.str (PySem.Str.ofString "up") 351, PySem.Value.str (PySem.Str.ofString "size") 352, PySem.Value.str (PySem.Str.ofString "great") 353, PySem.Value.str (PySem.Str.ofString "near") 354, PySem.Value.str (PySem.Str.ofString "empty") 355] }),
  (118, { cls := PySem.Value.type "tuple", data := PySem.Data.seq #[] }),
  (120, { cls := PySem.Value.type "code", data := PySem.Data.fields #[PySem.Value.str (PySem.Str.ofString "write_plane") 340, PySem.Value.str (PySem.Str.ofString "write_plane") 341, PySem.Value.str (PySem.Str.ofString "/claim/cut.py") 342, PySem.Value.int 86 0, PySem.Value.int 4 0, PySem.Value.int 0 0, PySem.Value.int 0 0, PySem.Value.int 3 0, PySem.Value.ref 115, PySem.Value.bool true, PySem.Value.int 181 0, PySem.Value.ref 116, PySem.Value.none, PySem.Value.ref 117, PySem.Value.ref 118, PySem.Value.ref 119, PySem.Value.int 356 0, PySem.Value.int 86 0, PySem.Value.str (PySem.Str.ofString "/claim/cut.py") 357] }),
  (121, { cls := PySem.Value.type "function", data := PySem.Data.func { name := PySem.Str.ofString "write_plane", qualname := PySem.Str.ofString "write_plane", params := fP (sAt 10), body := PySem.FuncBody.stmts (fB (sAt 10)), scope := fS (sAt 10), globals := 3, closure := [], defaults := PySem.Value.none, kwdefaults := PySem.Value.none, pyModule := PySem.Value.str (PySem.Str.ofString "lifting.trees") 246, code := PySem.Value.ref 120 } }),
  (122, { cls := PySem.Value.type "tuple", data := PySem.Data.seq #[] }),
  (124, { cls := PySem.Value.type "tuple", data := PySem.Data.seq #[PySem.Value.str (PySem.Str.ofString "reader") 362, PySem.Value.str (PySem.Str.ofString "trees") 363, PySem.Value.str (PySem.Str.ofString "known") 364, PySem.Value.str (PySem.Str.ofString "plane") 365, PySem.Value.str (PySem.Str.ofString "bound") 366, PySem.Value.str (PySem.Str.ofString "covered") 367, PySem.Value.str (PySem.Str.ofString "before") 368, PySem.Value.str (PySem.Str.ofString "k") 369, PySem.Value.str (PySem.Str.ofString "up") 370, PySem.Value.str (PySem.Str.ofString "near") 371] }),
  (125, { cls := PySem.Value.type "tuple", data := PySem.Data.seq #[] }),
  (127, { cls := PySem.Value.type "code", data := PySem.Data.fields #[PySem.Value.str (PySem.Str.ofString "read_plane") 359, PySem.Value.str (PySem.Str.ofString "read_plane") 360, PySem.Value.str (PySem.Str.ofString "/claim/cut.py") 361, PySem.Value.int 111 0, PySem.Value.int 4 0, PySem.Value.int 0 0, PySem.Value.int 0 0, PySem.Value.int 3 0, PySem.Value.ref 122, PySem.Value.bool true, PySem.Value.int 181 0, PySem.Value.ref 123, PySem.Value.none, PySem.Value.ref 124, PySem.Value.ref 125, PySem.Value.ref 126, PySem.Value.int 372 0, PySem.Value.int 111 0, PySem.Value.str (PySem.Str.ofString "/claim/cut.py") 373] }),
  (128, { cls := PySem.Value.type "function", data := PySem.Data.func { name := PySem.Str.ofString "read_plane", qualname := PySem.Str.ofString "read_plane", params := fP (sAt 11), body := PySem.FuncBody.stmts (fB (sAt 11)), scope := fS (sAt 11), globals := 3, closure := [], defaults := PySem.Value.none, kwdefaults := PySem.Value.none, pyModule := PySem.Value.str (PySem.Str.ofString "lifting.trees") 246, code := PySem.Value.ref 127 } }),
  (129, { cls := PySem.Value.type "tuple", data := PySem.Data.seq #[] }),
  (132, { cls := PySem.Value.type "code", data := PySem.Data.fields #[PySem.Value.str (PySem.Str.ofString "middled") 375, PySem.Value.str (PySem.Str.ofString "middled") 376, PySem.Value.str (PySem.Str.ofString "/claim/cut.py") 377, PySem.Value.int 130 0, PySem.Value.int 2 0, PySem.Value.int 0 0, PySem.Value.int 0 0, PySem.Value.int 3 0, PySem.Value.ref 129, PySem.Value.bool true, PySem.Value.int 181 0, PySem.Value.ref 130, PySem.Value.none, PySem.Value.none, PySem.Value.none, PySem.Value.ref 131, PySem.Value.int 378 0, PySem.Value.int 130 0, PySem.Value.str (PySem.Str.ofString "/claim/cut.py") 379] }),
  (133, { cls := PySem.Value.type "function", data := PySem.Data.func { name := PySem.Str.ofString "middled", qualname := PySem.Str.ofString "middled", params := fP (sAt 12), body := PySem.FuncBody.stmts (fB (sAt 12)), scope := fS (sAt 12), globals := 3, closure := [], defaults := PySem.Value.none, kwdefaults := PySem.Value.none, pyModule := PySem.Value.str (PySem.Str.ofString "lifting.trees") 246, code := PySem.Value.ref 132 } }),
  (141, { cls := PySem.Value.type "tuple", data := PySem.Data.seq #[] }),
  (143, { cls := PySem.Value.type "tuple", data := PySem.Data.seq #[PySem.Value.str (PySem.Str.ofString "self") 410] }),
  (144, { cls := PySem.Value.type "tuple", data := PySem.Data.seq #[] }),
  (146, { cls := PySem.Value.type "code", data := PySem.Data.fields #[PySem.Value.str (PySem.Str.ofString "__init__") 407, PySem.Value.str (PySem.Str.ofString "Model.__init__") 408, PySem.Value.str (PySem.Str.ofString "/claim/cut.py") 409, PySem.Value.int 140 0, PySem.Value.int 1 0, PySem.Value.int 0 0, PySem.Value.int 0 0, PySem.Value.int 3 0, PySem.Value.ref 141, PySem.Value.bool true, PySem.Value.int 181 0, PySem.Value.ref 142, PySem.Value.none, PySem.Value.ref 143, PySem.Value.ref 144, PySem.Value.ref 145, PySem.Value.int 411 0, PySem.Value.int 140 0, PySem.Value.str (PySem.Str.ofString "/claim/cut.py") 412] }),
  (147, { cls := PySem.Value.type "function", data := PySem.Data.func { name := PySem.Str.ofString "__init__", qualname := PySem.Str.ofString "Model.__init__", params := fP (sIn 18 0), body := PySem.FuncBody.stmts (fB (sIn 18 0)), scope := fS (sIn 18 0), globals := 3, closure := [], defaults := PySem.Value.none, kwdefaults := PySem.Value.none, pyModule := PySem.Value.str (PySem.Str.ofString "lifting.coder") 381, code := PySem.Value.ref 146 } }),
  (148, { cls := PySem.Value.type "tuple", data := PySem.Data.seq #[] }),
  (150, { cls := PySem.Value.type "tuple", data := PySem.Data.seq #[PySem.Value.str (PySem.Str.ofString "self") 417, PySem.Value.str (PySem.Str.ofString "context") 418] }),
  (151, { cls := PySem.Value.type "tuple", data := PySem.Data.seq #[] }),
  (153, { cls := PySem.Value.type "code", data := PySem.Data.fields #[PySem.Value.str (PySem.Str.ofString "pair") 414, PySem.Value.str (PySem.Str.ofString "Model.pair") 415, PySem.Value.str (PySem.Str.ofString "/claim/cut.py") 416, PySem.Value.int 143 0, PySem.Value.int 2 0, PySem.Value.int 0 0, PySem.Value.int 0 0, PySem.Value.int 3 0, PySem.Value.ref 148, PySem.Value.bool true, PySem.Value.int 181 0, PySem.Value.ref 149, PySem.Value.none, PySem.Value.ref 150, PySem.Value.ref 151, PySem.Value.ref 152, PySem.Value.int 419 0, PySem.Value.int 143 0, PySem.Value.str (PySem.Str.ofString "/claim/cut.py") 420] }),
  (154, { cls := PySem.Value.type "function", data := PySem.Data.func { name := PySem.Str.ofString "pair", qualname := PySem.Str.ofString "Model.pair", params := fP (sIn 18 1), body := PySem.FuncBody.stmts (fB (sIn 18 1)), scope := fS (sIn 18 1), globals := 3, closure := [], defaults := PySem.Value.none, kwdefaults := PySem.Value.none, pyModule := PySem.Value.str (PySem.Str.ofString "lifting.coder") 381, code := PySem.Value.ref 153 } }),
  (155, { cls := PySem.Value.type "tuple", data := PySem.Data.seq #[] }),
  (157, { cls := PySem.Value.type "tuple", data := PySem.Data.seq #[PySem.Value.str (PySem.Str.ofString "self") 425, PySem.Value.str (PySem.Str.ofString "context") 426, PySem.Value.str (PySem.Str.ofString "bit") 427, PySem.Value.str (PySem.Str.ofString "row") 428] }),
  (158, { cls := PySem.Value.type "tuple", data := PySem.Data.seq #[] }),
  (160, { cls := PySem.Value.type "code", data := PySem.Data.fields #[PySem.Value.str (PySem.Str.ofString "note") 422, PySem.Value.str (PySem.Str.ofString "Model.note") 423, PySem.Value.str (PySem.Str.ofString "/claim/cut.py") 424, PySem.Value.int 148 0, PySem.Value.int 3 0, PySem.Value.int 0 0, PySem.Value.int 0 0, PySem.Value.int 3 0, PySem.Value.ref 155, PySem.Value.bool true, PySem.Value.int 181 0, PySem.Value.ref 156, PySem.Value.none, PySem.Value.ref 157, PySem.Value.ref 158, PySem.Value.ref 159, PySem.Value.int 429 0, PySem.Value.int 148 0, PySem.Value.str (PySem.Str.ofString "/claim/cut.py") 430] }),
  (161, { cls := PySem.Value.type "function", data := PySem.Data.func { name := PySem.Str.ofString "note", qualname := PySem.Str.ofString "Model.note", params := fP (sIn 18 2), body := PySem.FuncBody.stmts (fB (sIn 18 2)), scope := fS (sIn 18 2), globals := 3, closure := [], defaults := PySem.Value.none, kwdefaults := PySem.Value.none, pyModule := PySem.Value.str (PySem.Str.ofString "lifting.coder") 381, code := PySem.Value.ref 160 } }),
  (162, { cls := PySem.Value.type "tuple", data := PySem.Data.seq #[] }),
  (164, { cls := PySem.Value.type "tuple", data := PySem.Data.seq #[PySem.Value.str (PySem.Str.ofString "self") 435, PySem.Value.str (PySem.Str.ofString "context") 436, PySem.Value.str (PySem.Str.ofString "low") 437, PySem.Value.str (PySem.Str.ofString "high") 438, PySem.Value.str (PySem.Str.ofString "row") 439, PySem.Value.str (PySem.Str.ofString "size") 440] }),
  (165, { cls := PySem.Value.type "tuple", data := PySem.Data.seq #[] }),
  (167, { cls := PySem.Value.type "code", data := PySem.Data.fields #[PySem.Value.str (PySem.Str.ofString "split") 432, PySem.Value.str (PySem.Str.ofString "Model.split") 433, PySem.Value.str (PySem.Str.ofString "/claim/cut.py") 434, PySem.Value.int 155 0, PySem.Value.int 4 0, PySem.Value.int 0 0, PySem.Value.int 0 0, PySem.Value.int 3 0, PySem.Value.ref 162, PySem.Value.bool true, PySem.Value.int 181 0, PySem.Value.ref 163, PySem.Value.none, PySem.Value.ref 164, PySem.Value.ref 165, PySem.Value.ref 166, PySem.Value.int 441 0, PySem.Value.int 155 0, PySem.Value.str (PySem.Str.ofString "/claim/cut.py") 442] }),
  (168, { cls := PySem.Value.type "function", data := PySem.Data.func { name := PySem.Str.ofString "split", qualname := PySem.Str.ofString "Model.split", params := fP (sIn 18 3), body := PySem.FuncBody.stmts (fB (sIn 18 3)), scope := fS (sIn 18 3), globals := 3, closure := [], defaults := PySem.Value.none, kwdefaults := PySem.Value.none, pyModule := PySem.Value.str (PySem.Str.ofString "lifting.coder") 381, code := PySem.Value.ref 167 } }),
  (169, { cls := PySem.Value.type "tuple", data := PySem.Data.seq #[PySem.Value.str (PySem.Str.ofString "counts") 444] }),
  (170, { cls := PySem.Value.type "dict", data := PySem.Data.dict #[{ hash := PySem.PyData.keyHash P (PySem.Str.ofString "__module__"), key := PySem.Value.str (PySem.Str.ofString "__module__") 402, val := PySem.Value.str (PySem.Str.ofString "lifting.coder") 381 }, { hash := PySem.PyData.keyHash P (PySem.Str.ofString "__firstlineno__"), key := PySem.Value.str (PySem.Str.ofString "__firstlineno__") 406, val := PySem.Value.int 138 405 }, { hash := PySem.PyData.keyHash P (PySem.Str.ofString "__init__"), key := PySem.Value.str (PySem.Str.ofString "__init__") 413, val := PySem.Value.ref 147 }, { hash := PySem.PyData.keyHash P (PySem.Str.ofString "pair"), key := PySem.Value.str (PySem.Str.ofString "pair") 421, val := PySem.Value.ref 154 }, { hash := PySem.PyData.keyHash P (PySem.Str.ofString "note"), key := PySem.Value.str (PySem.Str.ofString "note") 431, val := PySem.Value.ref 161 }, { hash := PySem.PyData.keyHash P (PySem.Str.ofString "split"), key := PySem.Value.str (PySem.Str.ofString "split") 443, val := PySem.Value.ref 168 }, { hash := PySem.PyData.keyHash P (PySem.Str.ofString "__static_attributes__"), key := PySem.Value.str (PySem.Str.ofString "__static_attributes__") 445, val := PySem.Value.ref 169 }, { hash := PySem.PyData.keyHash P (PySem.Str.ofString "__dict__"), key := PySem.Value.str (PySem.Str.ofString "__dict__") 447, val := PySem.Value.ref 172 }, { hash := PySem.PyData.keyHash P (PySem.Str.ofString "__weakref__"), key := PySem.Value.str (PySem.Str.ofString "__weakref__") 449, val := PySem.Value.ref 173 }, { hash := PySem.PyData.keyHash P (PySem.Str.ofString "__doc__"), key := PySem.Value.str (PySem.Str.ofString "__doc__") 450, val := PySem.Value.none }] 4 }),
  (171, { cls := PySem.Value.type "type", data := PySem.Data.cls { name := PySem.Str.ofString "Model", bases := [PySem.Value.type "object"], mro := [PySem.Value.ref 171, PySem.Value.type "object"], ns := 170, qualname := PySem.Str.ofString "Model" }, slots := #[none, none, some (PySem.Value.str (PySem.Str.ofString "Model") 395), some (PySem.Value.str (PySem.Str.ofString "Model") 403), some (PySem.Value.builtin "object.__new__"), some (PySem.Value.bool true)] }),
  (172, { cls := PySem.Value.type "getset_descriptor", data := PySem.Data.fields #[PySem.Value.str (PySem.Str.ofString "__dict__") 446, PySem.Value.ref 171, PySem.Value.builtin "function.__dict__", PySem.Value.builtin "function.__dict__#set"] }),
  (173, { cls := PySem.Value.type "getset_descriptor", data := PySem.Data.fields #[PySem.Value.str (PySem.Str.ofString "__weakref__") 448, PySem.Value.ref 171, PySem.Value.builtin "ExceptionGroup.__weakref__", PySem.Value.none] }),
  (183, { cls := PySem.Value.type "tuple", data := PySem.Data.seq #[] }),
  (185, { cls := PySem.Value.type "tuple", data := PySem.Data.seq #[PySem.Value.str (PySem.Str.ofString "self") 468] }),
  (186, { cls := PySem.Value.type "tuple", data := PySem.Data.seq #[] }),
  (188, { cls := PySem.Value.type "code", data := PySem.Data.fields #[PySem.Value.str (PySem.Str.ofString "__init__") 465, PySem.Value.str (PySem.Str.ofString "Writer.__init__") 466, PySem.Value.str (PySem.Str.ofString "/claim/cut.py") 467, PySem.Value.int 161 0, PySem.Value.int 1 0, PySem.Value.int 0 0, PySem.Value.int 0 0, PySem.Value.int 3 0, PySem.Value.ref 183, PySem.Value.bool true, PySem.Value.int 181 0, PySem.Value.ref 184, PySem.Value.none, PySem.Value.ref 185, PySem.Value.ref 186, PySem.Value.ref 187, PySem.Value.int 469 0, PySem.Value.int 161 0, PySem.Value.str (PySem.Str.ofString "/claim/cut.py") 470] }),
  (189, { cls := PySem.Value.type "function", data := PySem.Data.func { name := PySem.Str.ofString "__init__", qualname := PySem.Str.ofString "Writer.__init__", params := fP (sIn 19 0), body := PySem.FuncBody.stmts (fB (sIn 19 0)), scope := fS (sIn 19 0), globals := 3, closure := [], defaults := PySem.Value.none, kwdefaults := PySem.Value.none, pyModule := PySem.Value.str (PySem.Str.ofString "lifting.coder") 381, code := PySem.Value.ref 188 } }),
  (190, { cls := PySem.Value.type "tuple", data := PySem.Data.seq #[] }),
  (192, { cls := PySem.Value.type "tuple", data := PySem.Data.seq #[PySem.Value.str (PySem.Str.ofString "self") 475, PySem.Value.str (PySem.Str.ofString "bit") 476] }),
  (193, { cls := PySem.Value.type "tuple", data := PySem.Data.seq #[] }),
  (195, { cls := PySem.Value.type "code", data := PySem.Data.fields #[PySem.Value.str (PySem.Str.ofString "_put") 472, PySem.Value.str (PySem.Str.ofString "Writer._put") 473, PySem.Value.str (PySem.Str.ofString "/claim/cut.py") 474, PySem.Value.int 168 0, PySem.Value.int 2 0, PySem.Value.int 0 0, PySem.Value.int 0 0, PySem.Value.int 3 0, PySem.Value.ref 190, PySem.Value.bool true, PySem.Value.int 181 0, PySem.Value.ref 191, PySem.Value.none, PySem.Value.ref 192, PySem.Value.ref 193, PySem.Value.ref 194, PySem.Value.int 477 0, PySem.Value.int 168 0, PySem.Value.str (PySem.Str.ofString "/claim/cut.py") 478] }),
  (196, { cls := PySem.Value.type "function", data := PySem.Data.func { name := PySem.Str.ofString "_put", qualname := PySem.Str.ofString "Writer._put", params := fP (sIn 19 1), body := PySem.FuncBody.stmts (fB (sIn 19 1)), scope := fS (sIn 19 1), globals := 3, closure := [], defaults := PySem.Value.none, kwdefaults := PySem.Value.none, pyModule := PySem.Value.str (PySem.Str.ofString "lifting.coder") 381, code := PySem.Value.ref 195 } }),
  (197, { cls := PySem.Value.type "tuple", data := PySem.Data.seq #[] }),
  (199, { cls := PySem.Value.type "tuple", data := PySem.Data.seq #[PySem.Value.str (PySem.Str.ofString "self") 483, PySem.Value.str (PySem.Str.ofString "context") 484, PySem.Value.str (PySem.Str.ofString "bit") 485, PySem.Value.str (PySem.Str.ofString "middle") 486] }),
  (200, { cls := PySem.Value.type "tuple", data := PySem.Data.seq #[] }),
  (202, { cls := PySem.Value.type "code", data := PySem.Data.fields #[PySem.Value.str (PySem.Str.ofString "put") 480, PySem.Value.str (PySem.Str.ofString "Writer.put") 481, PySem.Value.str (PySem.Str.ofString "/claim/cut.py") 482, PySem.Value.int 173 0, PySem.Value.int 3 0, PySem.Value.int 0 0, PySem.Value.int 0 0, PySem.Value.int 3 0, PySem.Value.ref 197, PySem.Value.bool true, PySem.Value.int 181 0, PySem.Value.ref 198, PySem.Value.none, PySem.Value.ref 199, PySem.Value.ref 200, PySem.Value.ref 201, PySem.Value.int 487 0, PySem.Value.int 173 0, PySem.Value.str (PySem.Str.ofString "/claim/cut.py") 488] }),
  (203, { cls := PySem.Value.type "function", data := PySem.Data.func { name := PySem.Str.ofString "put", qualname := PySem.Str.ofString "Writer.put", params := fP (sIn 19 2), body := PySem.FuncBody.stmts (fB (sIn 19 2)), scope := fS (sIn 19 2), globals := 3, closure := [], defaults := PySem.Value.none, kwdefaults := PySem.Value.none, pyModule := PySem.Value.str (PySem.Str.ofString "lifting.coder") 381, code := PySem.Value.ref 202 } }),
  (204, { cls := PySem.Value.type "tuple", data := PySem.Data.seq #[] }),
  (206, { cls := PySem.Value.type "tuple", data := PySem.Data.seq #[PySem.Value.str (PySem.Str.ofString "self") 493, PySem.Value.str (PySem.Str.ofString "out") 494, PySem.Value.str (PySem.Str.ofString "at") 495, PySem.Value.str (PySem.Str.ofString "row") 496, PySem.Value.str (PySem.Str.ofString "value") 497, PySem.Value.str (PySem.Str.ofString "bit") 498] }),
  (207, { cls := PySem.Value.type "tuple", data := PySem.Data.seq #[] }),
  (209, { cls := PySem.Value.type "code", data := PySem.Data.fields #[PySem.Value.str (PySem.Str.ofString "finish") 490, PySem.Value.str (PySem.Str.ofString "Writer.finish") 491, PySem.Value.str (PySem.Str.ofString "/claim/cut.py") 492, PySem.Value.int 197 0, PySem.Value.int 1 0, PySem.Value.int 0 0, PySem.Value.int 0 0, PySem.Value.int 3 0, PySem.Value.ref 204, PySem.Value.bool true, PySem.Value.int 181 0, PySem.Value.ref 205, PySem.Value.none, PySem.Value.ref 206, PySem.Value.ref 207, PySem.Value.ref 208, PySem.Value.int 499 0, PySem.Value.int 197 0, PySem.Value.str (PySem.Str.ofString "/claim/cut.py") 500] }),
  (210, { cls := PySem.Value.type "function", data := PySem.Data.func { name := PySem.Str.ofString "finish", qualname := PySem.Str.ofString "Writer.finish", params := fP (sIn 19 3), body := PySem.FuncBody.stmts (fB (sIn 19 3)), scope := fS (sIn 19 3), globals := 3, closure := [], defaults := PySem.Value.none, kwdefaults := PySem.Value.none, pyModule := PySem.Value.str (PySem.Str.ofString "lifting.coder") 381, code := PySem.Value.ref 209 } }),
  (211, { cls := PySem.Value.type "tuple", data := PySem.Data.seq #[PySem.Value.str (PySem.Str.ofString "bits") 502, PySem.Value.str (PySem.Str.ofString "high") 503, PySem.Value.str (PySem.Str.ofString "low") 504, PySem.Value.str (PySem.Str.ofString "model") 505, PySem.Value.str (PySem.Str.ofString "waiting") 506] }),
  (212, { cls := PySem.Value.type "dict", data := PySem.Data.dict #[{ hash := PySem.PyData.keyHash P (PySem.Str.ofString "__module__"), key := PySem.Value.str (PySem.Str.ofString "__module__") 460, val := PySem.Value.str (PySem.Str.ofString "lifting.coder") 381 }, { hash := PySem.PyData.keyHash P (PySem.Str.ofString "__firstlineno__"), key := PySem.Value.str (PySem.Str.ofString "__firstlineno__") 464, val := PySem.Value.int 159 463 }, { hash := PySem.PyData.keyHash P (PySem.Str.ofString "__init__"), key := PySem.Value.str (PySem.Str.ofString "__init__") 471, val := PySem.Value.ref 189 }, { hash := PySem.PyData.keyHash P (PySem.Str.ofString "_put"), key := PySem.Value.str (PySem.Str.ofString "_put") 479, val := PySem.Value.ref 196 }, { hash := PySem.PyData.keyHash P (PySem.Str.ofString "put"), key := PySem.Value.str (PySem.Str.ofString "put") 489, val := PySem.Value.ref 203 }, { hash := PySem.PyData.keyHash P (PySem.Str.ofString "finish"), key := PySem.Value.str (PySem.Str.ofString "finish") 501, val := PySem.Value.ref 210 }, { hash := PySem.PyData.keyHash P (PySem.Str.ofString "__static_attributes__"), key := PySem.Value.str (PySem.Str.ofString "__static_attributes__") 507, val := PySem.Value.ref 211 }, { hash := PySem.PyData.keyHash P (PySem.Str.ofString "__dict__"), key := PySem.Value.str (PySem.Str.ofString "__dict__") 509, val := PySem.Value.ref 214 }, { hash := PySem.PyData.keyHash P (PySem.Str.ofString "__weakref__"), key := PySem.Value.str (PySem.Str.ofString "__weakref__") 511, val := PySem.Value.ref 215 }, { hash := PySem.PyData.keyHash P (PySem.Str.ofString "__doc__"), key := PySem.Value.str (PySem.Str.ofString "__doc__") 512, val := PySem.Value.none }] 4 }),
  (213, { cls := PySem.Value.type "type", data := PySem.Data.cls { name := PySem.Str.ofString "Writer", bases := [PySem.Value.type "object"], mro := [PySem.Value.ref 213, PySem.Value.type "object"], ns := 212, qualname := PySem.Str.ofString "Writer" }, slots := #[none, none, some (PySem.Value.str (PySem.Str.ofString "Writer") 453), some (PySem.Value.str (PySem.Str.ofString "Writer") 461), some (PySem.Value.builtin "object.__new__"), some (PySem.Value.bool true)] }),
  (214, { cls := PySem.Value.type "getset_descriptor", data := PySem.Data.fields #[PySem.Value.str (PySem.Str.ofString "__dict__") 508, PySem.Value.ref 213, PySem.Value.builtin "function.__dict__", PySem.Value.builtin "function.__dict__#set"] }),
  (215, { cls := PySem.Value.type "getset_descriptor", data := PySem.Data.fields #[PySem.Value.str (PySem.Str.ofString "__weakref__") 510, PySem.Value.ref 213, PySem.Value.builtin "ExceptionGroup.__weakref__", PySem.Value.none] }),
  (225, { cls := PySem.Value.type "tuple", data := PySem.Data.seq #[] }),
  (227, { cls := PySem.Value.type "tuple", data := PySem.Data.seq #[PySem.Value.str (PySem.Str.ofString "self") 530, PySem.Value.str (PySem.Str.ofString "data") 531, PySem.Value.str (PySem.Str.ofString "k") 532] }),
  (228, { cls := PySem.Value.type "tuple", data := PySem.Data.seq #[] }),
  (230, { cls := PySem.Value.type "code", data := PySem.Data.fields #[PySem.Value.str (PySem.Str.ofString "__init__") 527, PySem.Value.str (PySem.Str.ofString "Reader.__init__") 528, PySem.Value.str (PySem.Str.ofString "/claim/cut.py") 529, PySem.Value.int 211 0, PySem.Value.int 2 0, PySem.Value.int 0 0, PySem.Value.int 0 0, PySem.Value.int 3 0, PySem.Value.ref 225, PySem.Value.bool true, PySem.Value.int 181 0, PySem.Value.ref 226, PySem.Value.none, PySem.Value.ref 227, PySem.Value.ref 228, PySem.Value.ref 229, PySem.Value.int 533 0, PySem.Value.int 211 0, PySem.Value.str (PySem.Str.ofString "/claim/cut.py") 534] }),
  (231, { cls := PySem.Value.type "function", data := PySem.Data.func { name := PySem.Str.ofString "__init__", qualname := PySem.Str.ofString "Reader.__init__", params := fP (sIn 20 0), body := PySem.FuncBody.stmts (fB (sIn 20 0)), scope := fS (sIn 20 0), globals := 3, closure := [], defaults := PySem.Value.none, kwdefaults := PySem.Value.none, pyModule := PySem.Value.str (PySem.Str.ofString "lifting.coder") 381, code := PySem.Value.ref 230 } }),
  (232, { cls := PySem.Value.type "tuple", data := PySem.Data.seq #[] }),
  (234, { cls := PySem.Value.type "tuple", data := PySem.Data.seq #[PySem.Value.str (PySem.Str.ofString "self") 539, PySem.Value.str (PySem.Str.ofString "place") 540, PySem.Value.str (PySem.Str.ofString "out") 541] }),
  (235, { cls := PySem.Value.type "tuple", data := PySem.Data.seq #[] }),
  (237, { cls := PySem.Value.type "code", data := PySem.Data.fields #[PySem.Value.str (PySem.Str.ofString "_bit") 536, PySem.Value.str (PySem.Str.ofString "Reader._bit") 537, PySem.Value.str (PySem.Str.ofString "/claim/cut.py") 538, PySem.Value.int 221 0, PySem.Value.int 1 0, PySem.Value.int 0 0, PySem.Value.int 0 0, PySem.Value.int 3 0, PySem.Value.ref 232, PySem.Value.bool true, PySem.Value.int 181 0, PySem.Value.ref 233, PySem.Value.none, PySem.Value.ref 234, PySem.Value.ref 235, PySem.Value.ref 236, PySem.Value.int 542 0, PySem.Value.int 221 0, PySem.Value.str (PySem.Str.ofString "/claim/cut.py") 543] }),
  (238, { cls := PySem.Value.type "function", data := PySem.Data.func { name := PySem.Str.ofString "_bit", qualname := PySem.Str.ofString "Reader._bit", params := fP (sIn 20 1), body := PySem.FuncBody.stmts (fB (sIn 20 1)), scope := fS (sIn 20 1), globals := 3, closure := [], defaults := PySem.Value.none, kwdefaults := PySem.Value.none, pyModule := PySem.Value.str (PySem.Str.ofString "lifting.coder") 381, code := PySem.Value.ref 237 } }),
  (239, { cls := PySem.Value.type "tuple", data := PySem.Data.seq #[] }),
  (241, { cls := PySem.Value.type "tuple", data := PySem.Data.seq #[PySem.Value.str (PySem.Str.ofString "self") 548, PySem.Value.str (PySem.Str.ofString "context") 549, PySem.Value.str (PySem.Str.ofString "middle") 550, PySem.Value.str (PySem.Str.ofString "bit") 551, PySem.Value.str (PySem.Str.ofString "off") 552] }),
  (242, { cls := PySem.Value.type "tuple", data := PySem.Data.seq #[] }),
  (244, { cls := PySem.Value.type "code", data := PySem.Data.fields #[PySem.Value.str (PySem.Str.ofString "get") 545, PySem.Value.str (PySem.Str.ofString "Reader.get") 546, PySem.Value.str (PySem.Str.ofString "/claim/cut.py") 547, PySem.Value.int 229 0, PySem.Value.int 2 0, PySem.Value.int 0 0, PySem.Value.int 0 0, PySem.Value.int 3 0, PySem.Value.ref 239, PySem.Value.bool true, PySem.Value.int 181 0, PySem.Value.ref 240, PySem.Value.none, PySem.Value.ref 241, PySem.Value.ref 242, PySem.Value.ref 243, PySem.Value.int 553 0, PySem.Value.int 229 0, PySem.Value.str (PySem.Str.ofString "/claim/cut.py") 554] }),
  (245, { cls := PySem.Value.type "function", data := PySem.Data.func { name := PySem.Str.ofString "get", qualname := PySem.Str.ofString "Reader.get", params := fP (sIn 20 2), body := PySem.FuncBody.stmts (fB (sIn 20 2)), scope := fS (sIn 20 2), globals := 3, closure := [], defaults := PySem.Value.none, kwdefaults := PySem.Value.none, pyModule := PySem.Value.str (PySem.Str.ofString "lifting.coder") 381, code := PySem.Value.ref 244 } }),
  (246, { cls := PySem.Value.type "tuple", data := PySem.Data.seq #[PySem.Value.str (PySem.Str.ofString "at") 556, PySem.Value.str (PySem.Str.ofString "data") 557, PySem.Value.str (PySem.Str.ofString "high") 558, PySem.Value.str (PySem.Str.ofString "low") 559, PySem.Value.str (PySem.Str.ofString "model") 560, PySem.Value.str (PySem.Str.ofString "value") 561] }),
  (247, { cls := PySem.Value.type "dict", data := PySem.Data.dict #[{ hash := PySem.PyData.keyHash P (PySem.Str.ofString "__module__"), key := PySem.Value.str (PySem.Str.ofString "__module__") 522, val := PySem.Value.str (PySem.Str.ofString "lifting.coder") 381 }, { hash := PySem.PyData.keyHash P (PySem.Str.ofString "__firstlineno__"), key := PySem.Value.str (PySem.Str.ofString "__firstlineno__") 526, val := PySem.Value.int 209 525 }, { hash := PySem.PyData.keyHash P (PySem.Str.ofString "__init__"), key := PySem.Value.str (PySem.Str.ofString "__init__") 535, val := PySem.Value.ref 231 }, { hash := PySem.PyData.keyHash P (PySem.Str.ofString "_bit"), key := PySem.Value.str (PySem.Str.ofString "_bit") 544, val := PySem.Value.ref 238 }, { hash := PySem.PyData.keyHash P (PySem.Str.ofString "get"), key := PySem.Value.str (PySem.Str.ofString "get") 555, val := PySem.Value.ref 245 }, { hash := PySem.PyData.keyHash P (PySem.Str.ofString "__static_attributes__"), key := PySem.Value.str (PySem.Str.ofString "__static_attributes__") 562, val := PySem.Value.ref 246 }, { hash := PySem.PyData.keyHash P (PySem.Str.ofString "__dict__"), key := PySem.Value.str (PySem.Str.ofString "__dict__") 564, val := PySem.Value.ref 249 }, { hash := PySem.PyData.keyHash P (PySem.Str.ofString "__weakref__"), key := PySem.Value.str (PySem.Str.ofString "__weakref__") 566, val := PySem.Value.ref 250 }, { hash := PySem.PyData.keyHash P (PySem.Str.ofString "__doc__"), key := PySem.Value.str (PySem.Str.ofString "__doc__") 567, val := PySem.Value.none }] 4 }),
  (248, { cls := PySem.Value.type "type", data := PySem.Data.cls { name := PySem.Str.ofString "Reader", bases := [PySem.Value.type "object"], mro := [PySem.Value.ref 248, PySem.Value.type "object"], ns := 247, qualname := PySem.Str.ofString "Reader" }, slots := #[none, none, some (PySem.Value.str (PySem.Str.ofString "Reader") 515), some (PySem.Value.str (PySem.Str.ofString "Reader") 523), some (PySem.Value.builtin "object.__new__"), some (PySem.Value.bool true)] }),
  (249, { cls := PySem.Value.type "getset_descriptor", data := PySem.Data.fields #[PySem.Value.str (PySem.Str.ofString "__dict__") 563, PySem.Value.ref 248, PySem.Value.builtin "function.__dict__", PySem.Value.builtin "function.__dict__#set"] }),
  (250, { cls := PySem.Value.type "getset_descriptor", data := PySem.Data.fields #[PySem.Value.str (PySem.Str.ofString "__weakref__") 565, PySem.Value.ref 248, PySem.Value.builtin "ExceptionGroup.__weakref__", PySem.Value.none] }),
  (253, { cls := PySem.Value.type "tuple", data := PySem.Data.seq #[] }),
  (256, { cls := PySem.Value.type "code", data := PySem.Data.fields #[PySem.Value.str (PySem.Str.ofString "plain_bits") 572, PySem.Value.str (PySem.Str.ofString "plain_bits") 573, PySem.Value.str (PySem.Str.ofString "/claim/cut.py") 574, PySem.Value.int 251 0, PySem.Value.int 2 0, PySem.Value.int 0 0, PySem.Value.int 0 0, PySem.Value.int 3 0, PySem.Value.ref 253, PySem.Value.bool true, PySem.Value.int 181 0, PySem.Value.ref 254, PySem.Value.none, PySem.Value.none, PySem.Value.none, PySem.Value.ref 255, PySem.Value.int 575 0, PySem.Value.int 251 0, PySem.Value.str (PySem.Str.ofString "/claim/cut.py") 576] }),
  (257, { cls := PySem.Value.type "function", data := PySem.Data.func { name := PySem.Str.ofString "plain_bits", qualname := PySem.Str.ofString "plain_bits", params := fP (sAt 22), body := PySem.FuncBody.stmts (fB (sAt 22)), scope := fS (sAt 22), globals := 3, closure := [], defaults := PySem.Value.none, kwdefaults := PySem.Value.none, pyModule := PySem.Value.str (PySem.Str.ofString "lifting.plain") 570, code := PySem.Value.ref 256 } }),
  (258, { cls := PySem.Value.type "tuple", data := PySem.Data.seq #[] }),
  (260, { cls := PySem.Value.type "tuple", data := PySem.Data.seq #[PySem.Value.str (PySem.Str.ofString "value") 581, PySem.Value.str (PySem.Str.ofString "plane") 582, PySem.Value.str (PySem.Str.ofString "size") 583, PySem.Value.str (PySem.Str.ofString "known") 584] }),
  (261, { cls := PySem.Value.type "tuple", data := PySem.Data.seq #[] }),
  (263, { cls := PySem.Value.type "code", data := PySem.Data.fields #[PySem.Value.str (PySem.Str.ofString "plain_cut_down") 578, PySem.Value.str (PySem.Str.ofString "plain_cut_down") 579, PySem.Value.str (PySem.Str.ofString "/claim/cut.py") 580, PySem.Value.int 255 0, PySem.Value.int 2 0, PySem.Value.int 0 0, PySem.Value.int 0 0, PySem.Value.int 3 0, PySem.Value.ref 258, PySem.Value.bool true, PySem.Value.int 181 0, PySem.Value.ref 259, PySem.Value.none, PySem.Value.ref 260, PySem.Value.ref 261, PySem.Value.ref 262, PySem.Value.int 585 0, PySem.Value.int 255 0, PySem.Value.str (PySem.Str.ofString "/claim/cut.py") 586] }),
  (264, { cls := PySem.Value.type "function", data := PySem.Data.func { name := PySem.Str.ofString "plain_cut_down", qualname := PySem.Str.ofString "plain_cut_down", params := fP (sAt 23), body := PySem.FuncBody.stmts (fB (sAt 23)), scope := fS (sAt 23), globals := 3, closure := [], defaults := PySem.Value.none, kwdefaults := PySem.Value.none, pyModule := PySem.Value.str (PySem.Str.ofString "lifting.plain") 570, code := PySem.Value.ref 263 } }),
  (265, { cls := PySem.Value.type "tuple", data := PySem.Data.seq #[] }),
  (267, { cls := PySem.Value.type "tuple", data := PySem.Data.seq #[PySem.Value.str (PySem.Str.ofString "script") 593, PySem.Value.str (PySem.Str.ofString "k") 594] }),
  (268, { cls := PySem.Value.type "tuple", data := PySem.Data.seq #[] }),
  (270, { cls := PySem.Value.type "code", data := PySem.Data.fields #[PySem.Value.str (PySem.Str.ofString "_law_cell") 590, PySem.Value.str (PySem.Str.ofString "_law_cell") 591, PySem.Value.str (PySem.Str.ofString "/claim/cut.py") 592, PySem.Value.int 262 0, PySem.Value.int 2 0, PySem.Value.int 0 0, PySem.Value.int 0 0, PySem.Value.int 3 0, PySem.Value.ref 265, PySem.Value.bool true, PySem.Value.int 181 0, PySem.Value.ref 266, PySem.Value.none, PySem.Value.ref 267, PySem.Value.ref 268, PySem.Value.ref 269, PySem.Value.int 595 0, PySem.Value.int 262 0, PySem.Value.str (PySem.Str.ofString "/claim/cut.py") 596] }),
  (271, { cls := PySem.Value.type "function", data := PySem.Data.func { name := PySem.Str.ofString "_law_cell", qualname := PySem.Str.ofString "_law_cell", params := fP (sAt 25), body := PySem.FuncBody.stmts (fB (sAt 25)), scope := fS (sAt 25), globals := 3, closure := [], defaults := PySem.Value.none, kwdefaults := PySem.Value.none, pyModule := PySem.Value.str (PySem.Str.ofString "law_ui0502_15") 588, code := PySem.Value.ref 270 } }),
  (272, { cls := PySem.Value.type "tuple", data := PySem.Data.seq #[] }),
  (275, { cls := PySem.Value.type "code", data := PySem.Data.fields #[PySem.Value.str (PySem.Str.ofString "law") 598, PySem.Value.str (PySem.Str.ofString "law") 599, PySem.Value.str (PySem.Str.ofString "/claim/cut.py") 600, PySem.Value.int 266 0, PySem.Value.int 1 0, PySem.Value.int 0 0, PySem.Value.int 0 0, PySem.Value.int 3 0, PySem.Value.ref 272, PySem.Value.bool true, PySem.Value.int 181 0, PySem.Value.ref 273, PySem.Value.none, PySem.Value.none, PySem.Value.none, PySem.Value.ref 274, PySem.Value.int 601 0, PySem.Value.int 266 0, PySem.Value.str (PySem.Str.ofString "/claim/cut.py") 602] }),
  (276, { cls := PySem.Value.type "function", data := PySem.Data.func { name := PySem.Str.ofString "law", qualname := PySem.Str.ofString "law", params := fP (sAt 26), body := PySem.FuncBody.stmts (fB (sAt 26)), scope := fS (sAt 26), globals := 3, closure := [], defaults := PySem.Value.none, kwdefaults := PySem.Value.none, pyModule := PySem.Value.str (PySem.Str.ofString "law_ui0502_15") 588, code := PySem.Value.ref 275 } })]
noncomputable def hd.view : Program := { PySem.Challenge.pw_ui0502_15 with main := { PySem.Challenge.pw_ui0502_15.main with body := [0, 2, 3, 4, 6, 8, 9, 10, 11, 12, 14, 15, 16, 17, 18, 19, 20, 22, 23, 25, 26].filterMap (PySem.Challenge.pw_ui0502_15.main.body[·]?) } }
noncomputable def hd.as : List Addr := [2, 3, 15, 17, 18, 20, 21, 22, 29, 30, 31, 32, 35, 37, 38, 40, 41, 42, 44, 45, 47, 48, 49, 51, 52, 54, 55, 63, 66, 67, 68, 70, 71, 73, 74, 75, 77, 78, 80, 81, 82, 84, 85, 87, 88, 89, 91, 92, 94, 95, 96, 98, 99, 101, 102, 103, 104, 105, 106, 107, 110, 113, 114, 115, 117, 118, 120, 121, 122, 124, 125, 127, 128, 129, 132, 133, 141, 143, 144, 146, 147, 148, 150, 151, 153, 154, 155, 157, 158, 160, 161, 162, 164, 165, 167, 168, 169, 170, 171, 172, 173, 183, 185, 186, 188, 189, 190, 192, 193, 195, 196, 197, 199, 200, 202, 203, 204, 206, 207, 209, 210, 211, 212, 213, 214, 215, 225, 227, 228, 230, 231, 232, 234, 235, 237, 238, 239, 241, 242, 244, 245, 246, 247, 248, 249, 250, 253, 256, 257, 258, 260, 261, 263, 264, 265, 267, 268, 270, 271, 272, 275, 276]
noncomputable def hd.hook : Hook := kHook hd.heap_39 hd.as (fun _ => by kernel_rfl)
theorem hd.left : LeftO PySem.Challenge.rw_ui0502_15.row.prog hd.view [Str.ofString "TOP", Str.ofString "HALF", Str.ofString "QUARTER"] (fun s => xlAt hd.view [] s && recOk (RowW.records PySem.Challenge.rw_ui0502_15.row.toRowW) s) (Hook.obs hd.hook) (Hook.val hd.hook) 4144 := fun w => by kernel_rfl
theorem hd.said : PySem.Challenge.rw_ui0502_15.wellSaid = true := by kernel_rfl
noncomputable def hd.rec : DefRec := ⟨Str.ofString "law", fP (sAt 26), fB (sAt 26), fS (sAt 26), (sAt 26).pos⟩
theorem hd.all (h : WalkO hd.view [Str.ofString "TOP", Str.ofString "HALF", Str.ofString "QUARTER"] (XL hd.view []) (Hook.says hd.hook) PySem.Challenge.rw_ui0502_15.row.toRowW hd.rec [] fun f vs => PySem.call f vs) : PySem.Challenge.rw_ui0502_15.Holds := by
  refine holds_law hd.said fun said => ?_
  refine holds_open (q := hd.view) (loose := [Str.ofString "TOP", Str.ofString "HALF", Str.ofString "QUARTER"]) (Xt := fun s => xlAt hd.view [] s && recOk (RowW.records PySem.Challenge.rw_ui0502_15.row.toRowW) s) (XP := XL hd.view []) (Yf := Hook.obs hd.hook) (Ya := Hook.val hd.hook) (YP := Hook.says hd.hook) (N := 4144) (d := hd.rec) (kwd := []) hd.left (Hook.of hd.hook) (Hook.keeps hd.hook) (fun s e => xl_of s (Bool.and_eq_true_iff.mp e).1) XL.keeps (by kernel_rfl) (by kernel_rfl) (by kernel_rfl) (fun s e => recFacts_of (Bool.and_eq_true_iff.mp e).2) (by kernel_rfl) said (by decide +kernel) ⟨rfl, rfl, rfl, rfl, rfl, by decide +kernel⟩ ?hw h
  case hw => w_witness2
end
end Mine

-- part Ax0
set_option autoImplicit false
set_option linter.unusedVariables false
namespace Mine
/- many witnesses, many facts: one elimination each -/
inductive Ex1 {α0 : Type} (p : α0 → Prop) : Prop
  | mk (a0 : α0) (h : p a0) : Ex1 p
inductive Ex2 {α0 α1 : Type} (p : α0 → α1 → Prop) : Prop
  | mk (a0 : α0) (a1 : α1) (h : p a0 a1) : Ex2 p
inductive Ex3 {α0 α1 α2 : Type} (p : α0 → α1 → α2 → Prop) : Prop
  | mk (a0 : α0) (a1 : α1) (a2 : α2) (h : p a0 a1 a2) : Ex3 p
inductive Ex4 {α0 α1 α2 α3 : Type} (p : α0 → α1 → α2 → α3 → Prop) : Prop
  | mk (a0 : α0) (a1 : α1) (a2 : α2) (a3 : α3) (h : p a0 a1 a2 a3) : Ex4 p
inductive Ex5 {α0 α1 α2 α3 α4 : Type} (p : α0 → α1 → α2 → α3 → α4 → Prop) : Prop
  | mk (a0 : α0) (a1 : α1) (a2 : α2) (a3 : α3) (a4 : α4) (h : p a0 a1 a2 a3 a4) : Ex5 p
inductive Ex6 {α0 α1 α2 α3 α4 α5 : Type} (p : α0 → α1 → α2 → α3 → α4 → α5 → Prop) : Prop
  | mk (a0 : α0) (a1 : α1) (a2 : α2) (a3 : α3) (a4 : α4) (a5 : α5) (h : p a0 a1 a2 a3 a4 a5) : Ex6 p
inductive Ex7 {α0 α1 α2 α3 α4 α5 α6 : Type} (p : α0 → α1 → α2 → α3 → α4 → α5 → α6 → Prop) : Prop
  | mk (a0 : α0) (a1 : α1) (a2 : α2) (a3 : α3) (a4 : α4) (a5 : α5) (a6 : α6) (h : p a0 a1 a2 a3 a4 a5 a6) : Ex7 p
inductive Ex8 {α0 α1 α2 α3 α4 α5 α6 α7 : Type} (p : α0 → α1 → α2 → α3 → α4 → α5 → α6 → α7 → Prop) : Prop
  | mk (a0 : α0) (a1 : α1) (a2 : α2) (a3 : α3) (a4 : α4) (a5 : α5) (a6 : α6) (a7 : α7) (h : p a0 a1 a2 a3 a4 a5 a6 a7) : Ex8 p
inductive Ex9 {α0 α1 α2 α3 α4 α5 α6 α7 α8 : Type} (p : α0 → α1 → α2 → α3 → α4 → α5 → α6 → α7 → α8 → Prop) : Prop
  | mk (a0 : α0) (a1 : α1) (a2 : α2) (a3 : α3) (a4 : α4) (a5 : α5) (a6 : α6) (a7 : α7) (a8 : α8) (h : p a0 a1 a2 a3 a4 a5 a6 a7 a8) : Ex9 p
inductive And3 (a0 a1 a2 : Prop) : Prop
  | mk (h0 : a0) (h1 : a1) (h2 : a2) : And3 a0 a1 a2
inductive And4 (a0 a1 a2 a3 : Prop) : Prop
  | mk (h0 : a0) (h1 : a1) (h2 : a2) (h3 : a3) : And4 a0 a1 a2 a3
inductive And5 (a0 a1 a2 a3 a4 : Prop) : Prop
  | mk (h0 : a0) (h1 : a1) (h2 : a2) (h3 : a3) (h4 : a4) : And5 a0 a1 a2 a3 a4
inductive And6 (a0 a1 a2 a3 a4 a5 : Prop) : Prop
  | mk (h0 : a0) (h1 : a1) (h2 : a2) (h3 : a3) (h4 : a4) (h5 : a5) : And6 a0 a1 a2 a3 a4 a5
inductive And7 (a0 a1 a2 a3 a4 a5 a6 : Prop) : Prop
  | mk (h0 : a0) (h1 : a1) (h2 : a2) (h3 : a3) (h4 : a4) (h5 : a5) (h6 : a6) : And7 a0 a1 a2 a3 a4 a5 a6
end Mine

-- part Aw0
set_option autoImplicit false
set_option linter.unusedVariables false
namespace Mine
open PySem

theorem size_upd (h : Heap) (a : Addr) (f : Obj → Obj) : (h.update a f).objs.size = h.objs.size := (Heap.SameBut.update h a f).1
theorem size_psh (h : Heap) (o : Obj) : (h.push o).objs.size = h.objs.size + 1 := by simp [Heap.push]
theorem runs_sz {M : Model} {Γ : Ctx} {p : Pos} {t : Sem Fin} {fs : List Frame} {s s' : Shared} {e : End} (h : Runs M Γ p t fs s e s') : s.heap.objs.size ≤ s'.heap.objs.size := by
  induction h <;> (try simp only [Shared.setGen, size_upd, size_psh] at *) <;> lia
theorem wakes_sz {M : Model} {Γ : Ctx} {p : Pos} {g : Nat} {r : Resume} {s s' : Shared} {res : GenResult} (h : Wakes M Γ p g r s res s') : s.heap.objs.size ≤ s'.heap.objs.size := by
  unfold Wakes at h
  split at h
  · exact h.elim
  · split at h
    · obtain ⟨e₁, s₁, hr, _, _, rfl⟩ := h; exact (runs_sz hr : (s.setGen g .running).heap.objs.size ≤ s₁.heap.objs.size)
    · rw [h.2]; exact Nat.le_refl _
    · rw [h.2]; exact Nat.le_refl _
  · obtain ⟨e₁, s₁, hr, _, _, rfl⟩ := h; exact (runs_sz hr : (s.setGen g .running).heap.objs.size ≤ s₁.heap.objs.size)
  · rw [h.2]; exact Nat.le_refl _
  · rw [h.2]; exact Nat.le_refl _
theorem wp_sz {α : Type} (M : Model) (Γ : Ctx) (n : Nat) (t : Sem α) : ∀ (Q : α → Pos → Shared → Prop) (E : Value → Pos → Shared → Prop) (p : Pos) (s : Shared), n ≤ s.heap.objs.size → Sem.wp M Γ t Q E p s →
    Sem.wp M Γ t (fun a p' s' => n ≤ s'.heap.objs.size ∧ Q a p' s') (fun e p' s' => n ≤ s'.heap.objs.size ∧ E e p' s') p s := by
  induction t with
  | pure a => intro Q E p s hn h; exact ⟨hn, h⟩
  | raise e => intro Q E p s hn h; exact ⟨hn, h⟩
  | unsupported _ => intro Q E p s _ h; exact h
  | finish _ => intro Q E p s _ h; exact h
  | rule _ k ih => intro Q E p s hn h; exact ih () Q E p s hn h
  | «at» p' k ih => intro Q E p s hn h; exact ih () Q E p' s hn h
  | load a _ k ih => intro Q E p s hn h; obtain ⟨o, ho, h⟩ := h; exact ⟨o, ho, ih o Q E p s hn h⟩
  | update a _ f k ih => intro Q E p s hn h; exact ⟨h.1, ih () Q E p _ (by simp only [size_upd]; exact hn) h.2⟩
  | loadIfAlive a k ih => intro Q E p s hn h; exact ih _ Q E p s hn h
  | point _ k ih => intro Q E p s hn h; exact ih () Q E p s hn h
  | register _ _ => intro Q E p s _ h; exact h
  | alloc o k ih => intro Q E p s hn h; exact ih _ Q E p _ (by simp only [size_psh]; lia) h
  | fresh k ih => intro Q E p s hn h; exact ih _ Q E p _ hn h
  | ask k ih => intro Q E p s hn h; exact ih _ Q E p s hn h
  | choose src m k ih => intro Q E p s hn h; exact ⟨h.1, ih _ Q E p _ hn h.2⟩
  | os q _ k ih => intro Q E p s hn h; exact ih _ Q E p _ hn h
  | call c hd _ _ k ih => intro Q E p s hn h; obtain ⟨r, s', hr, h⟩ := h; exact ⟨r, s', hr, ih r Q E p s' (Nat.le_trans hn (runs_sz hr)) h⟩
  | handled own k ih => intro Q E p s hn h; exact ih _ Q E p s hn h
  | genState g k ih => intro Q E p s hn h; obtain ⟨st, hs, h⟩ := h; exact ⟨st, hs, ih _ Q E p s hn h⟩
  | newGen c k ih => intro Q E p s hn h; exact ih _ Q E p _ hn h
  | resume g r _ k ih => intro Q E p s hn h; obtain ⟨res, s', hw, h⟩ := h; exact ⟨res, s', hw, ih res Q E p s' (Nat.le_trans hn (wakes_sz hw)) h⟩
  | yield _ _ _ _ => intro Q E p s _ h; exact h
  | stack k ih => intro Q E p s hn h; exact ih _ Q E p s hn h
  | fork _ _ => intro Q E p s _ h; exact h
  | thread k ih => intro Q E p s hn h; exact ih _ Q E p s hn h
  | await _ _ _ _ _ => intro Q E p s _ h; exact h
/-- the heap never shrinks -/
theorem wpAny_sz {α : Type} {M : Model} {A : Around} {s : Shared} {t : Sem α} {Q : α → Shared → Prop} {E : Value → Shared → Prop}
    (h : wpAny M A t (fun a s' => s.heap.objs.size ≤ s'.heap.objs.size → Q a s') E s) : wpAny M A t Q E s :=
  have h2 : wpAny M A t (fun a s' => s.heap.objs.size ≤ s'.heap.objs.size ∧ (s.heap.objs.size ≤ s'.heap.objs.size → Q a s')) (fun e s' => s.heap.objs.size ≤ s'.heap.objs.size ∧ E e s') s :=
    fun Γ p hΓ => wp_sz M Γ s.heap.objs.size t _ _ p s (Nat.le_refl _) (h Γ p hΓ)
  wpAny_mono h2 (fun _ _ x => x.2 x.1) (fun _ _ x => x.2)
end Mine

-- part Aw1
set_option autoImplicit false
namespace Mine
open PySem

inductive V where
  | none
  | bool (b : Bool)
  | int (i : Int)
  | str (s : Str)
  | bytes (b : Array UInt8)
  | ref (i : Nat)
  | k (v : Value)

/-- a key's part -/
inductive Atom where
  | s (x : Str)
  | i (n : Int)
  deriving DecidableEq
/-- a key that is a text or a tuple -/
inductive MK where
  | s (x : Str)
  | t (ks : List Atom)
  deriving DecidableEq
inductive O where
  | list (xs : List V)
  | tuple (xs : List V)
  | inst (C : Addr) (d : Nat)
  | ns (es : List (Str × V))
  | tdict (es : List (List Atom × Nat × V))
  | mdict (es : List (MK × Nat × V))

abbrev AH := List O
abbrev Loc := List (Str × Option V)

noncomputable def RV (ad : List Addr) : V → Value → Prop
  | .none, x => x = .none
  | .bool b, x => x = .bool b
  | .int i, x => ∃ t, x = .int i t
  | .str s, x => ∃ t, x = .str s t
  | .bytes b, x => ∃ t, x = .bytes b t
  | .ref i, x => ∃ a, ad[i]? = some a ∧ x = .ref a
  | .k v, x => x = v

inductive RVs (ad : List Addr) : List V → List Value → Prop
  | nil : RVs ad [] []
  | cons {v : V} {x : Value} {vs : List V} {xs : List Value} : RV ad v x → RVs ad vs xs → RVs ad (v :: vs) (x :: xs)

inductive REs (P : Params) (ad : List Addr) : List (Str × V) → List DictEntry → Prop
  | nil : REs P ad [] []
  | cons {k : Str} {v : V} {t : Tok} {x : Value} {es : List (Str × V)} {ds : List DictEntry} : RV ad v x → REs P ad es ds → REs P ad ((k, v) :: es) (⟨PyData.keyHash P k, .str k t, x⟩ :: ds)

noncomputable def atomHash (P : Params) : Atom → Int
  | .s x => PyData.keyHash P x
  | .i n => hashInt n
noncomputable def tkHash (P : Params) (ks : List Atom) : Int := reduceHash (Builtin.Tuple.tupleHashOf (ks.map (atomHash P)))
inductive RTs (P : Params) (ad : List Addr) : List (List Atom × Nat × V) → List DictEntry → Prop
  | nil : RTs P ad [] []
  | cons {ks : List Atom} {j : Nat} {a : Addr} {v : V} {x : Value} {es : List (List Atom × Nat × V)} {ds : List DictEntry} : ad[j]? = some a → RV ad v x → RTs P ad es ds → RTs P ad ((ks, j, v) :: es) (⟨tkHash P ks, .ref a, x⟩ :: ds)

noncomputable def mkHash (P : Params) : MK → Int
  | .s x => PyData.keyHash P x
  | .t ks => tkHash P ks
/-- the key's value: for a tuple, the tuple's place -/
noncomputable def MKV (ad : List Addr) : MK → Nat → Value → Prop
  | .s x, _, u => ∃ t, u = .str x t
  | .t _, j, u => ∃ a, ad[j]? = some a ∧ u = .ref a
inductive RMs (P : Params) (ad : List Addr) : List (MK × Nat × V) → List DictEntry → Prop
  | nil : RMs P ad [] []
  | cons {k : MK} {j : Nat} {u : Value} {v : V} {x : Value} {es : List (MK × Nat × V)} {ds : List DictEntry} : MKV ad k j u → RV ad v x → RMs P ad es ds → RMs P ad ((k, j, v) :: es) (⟨mkHash P k, u, x⟩ :: ds)

noncomputable def RO (P : Params) (ad : List Addr) : O → Obj → Prop
  | .list xs, o => Ex2 fun vs n => (o = ⟨.type "list", none, .seq vs n, #[]⟩) ∧ (RVs ad xs vs.toList)
  | .tuple xs, o => Ex2 fun vs n => (o = ⟨.type "tuple", none, .seq vs n, #[]⟩) ∧ (RVs ad xs vs.toList)
  | .inst C d, o => ∃ a, ad[d]? = some a ∧ o = ⟨.ref C, some a, .plain, #[]⟩
  | .ns es, o => Ex2 fun ds n => (o = ⟨.type "dict", none, .dict ds n, #[]⟩) ∧ (REs P ad es ds.toList)
  | .tdict es, o => Ex2 fun ds n => (o = ⟨.type "dict", none, .dict ds n, #[]⟩) ∧ (RTs P ad es ds.toList)
  | .mdict es, o => Ex2 fun ds n => (o = ⟨.type "dict", none, .dict ds n, #[]⟩) ∧ (RMs P ad es ds.toList)

theorem RV.mono {ad nw : List Addr} {v : V} {x : Value} (h : RV ad v x) : RV (ad ++ nw) v x := by
  cases v <;> try exact h
  obtain ⟨a, h1, h2⟩ := h
  refine ⟨a, ?_, h2⟩
  rw [List.getElem?_append_left]
  · exact h1
  · exact (List.getElem?_eq_some_iff.mp h1).1
theorem RVs.mono {ad nw : List Addr} {v : List V} {x : List Value} (h : RVs ad v x) : RVs (ad ++ nw) v x := by
  induction h with
  | nil => exact .nil
  | cons a _ ih => exact .cons a.mono ih
theorem REs.mono {P : Params} {ad nw : List Addr} {v : List (Str × V)} {x : List DictEntry} (h : REs P ad v x) : REs P (ad ++ nw) v x := by
  induction h with
  | nil => exact .nil
  | cons a _ ih => exact .cons a.mono ih
theorem RTs.mono {P : Params} {ad nw : List Addr} {v : List (List Atom × Nat × V)} {x : List DictEntry} (h : RTs P ad v x) : RTs P (ad ++ nw) v x := by
  induction h with
  | nil => exact .nil
  | cons e a _ ih => exact .cons (by rw [List.getElem?_append_left (List.getElem?_eq_some_iff.mp e).1]; exact e) a.mono ih
theorem MKV.mono {ad nw : List Addr} {k : MK} {j : Nat} {u : Value} (h : MKV ad k j u) : MKV (ad ++ nw) k j u := by
  cases k with
  | s x => exact h
  | t ks => obtain ⟨a, e, r⟩ := h; exact ⟨a, by rw [List.getElem?_append_left (List.getElem?_eq_some_iff.mp e).1]; exact e, r⟩
theorem RMs.mono {P : Params} {ad nw : List Addr} {v : List (MK × Nat × V)} {x : List DictEntry} (h : RMs P ad v x) : RMs P (ad ++ nw) v x := by
  induction h with
  | nil => exact .nil
  | cons e a _ ih => exact .cons e.mono a.mono ih
theorem RO.mono {P : Params} {ad nw : List Addr} {o : O} {x : Obj} (h : RO P ad o x) : RO P (ad ++ nw) o x := by
  cases o with
  | list xs => obtain ⟨vs, n, e, r⟩ := h; exact ⟨vs, n, e, r.mono⟩
  | tuple xs => obtain ⟨vs, n, e, r⟩ := h; exact ⟨vs, n, e, r.mono⟩
  | inst C d =>
    obtain ⟨a, h1, h2⟩ := h
    refine ⟨a, ?_, h2⟩
    rw [List.getElem?_append_left]
    · exact h1
    · exact (List.getElem?_eq_some_iff.mp h1).1
  | ns es => obtain ⟨vs, n, e, r⟩ := h; exact ⟨vs, n, e, r.mono⟩
  | tdict es => obtain ⟨vs, n, e, r⟩ := h; exact ⟨vs, n, e, r.mono⟩
  | mdict es => obtain ⟨vs, n, e, r⟩ := h; exact ⟨vs, n, e, r.mono⟩
theorem RO.notFreed {P : Params} {ad : List Addr} {o : O} {x : Obj} (h : RO P ad o x) : x.isFreed = false := by
  cases o with
  | list xs => obtain ⟨vs, n, e, r⟩ := h; subst e; rfl
  | tuple xs => obtain ⟨vs, n, e, r⟩ := h; subst e; rfl
  | inst C d => obtain ⟨a, h1, h2⟩ := h; subst h2; rfl
  | ns es => obtain ⟨vs, n, e, r⟩ := h; subst e; rfl
  | tdict es => obtain ⟨vs, n, e, r⟩ := h; subst e; rfl
  | mdict es => obtain ⟨vs, n, e, r⟩ := h; subst e; rfl
theorem RVs.length {ad : List Addr} {v : List V} {x : List Value} (h : RVs ad v x) : v.length = x.length := by
  induction h with
  | nil => rfl
  | cons _ _ ih => simp [ih]
theorem RVs.get {ad : List Addr} {v : List V} {x : List Value} (h : RVs ad v x) : ∀ {i : Nat} {a : V}, v[i]? = some a → ∃ u, x[i]? = some u ∧ RV ad a u := by
  induction h with
  | nil => intro i a h; simp at h
  | cons r _ ih =>
    intro i a h
    cases i with
    | zero => simp at h; subst h; exact ⟨_, rfl, r⟩
    | succ i => simp at h; obtain ⟨u, h1, h2⟩ := ih h; exact ⟨u, by simpa using h1, h2⟩

structure Cx where
  prog : Program
  w : World
  G : Heap
  gob : List (Addr × O)
  glo : List (Str × Value)
  mg : Str → Option Value
  mb : Str → Option Value

abbrev Cx.wg (C : Cx) (l : List (Str × Value)) : Cx := { C with glo := l }
noncomputable def nmOk (x : Str) : Bool := !(x == ("__debug__" : Str)) && !(x == ("__classdict__" : Str))
theorem nmOk_d {x : Str} (h : nmOk x = true) : (x == ("__debug__" : Str)) = false := by unfold nmOk at h; simp at h ⊢; exact h.1
theorem nmOk_c {x : Str} (h : nmOk x = true) : (x == ("__classdict__" : Str)) = false := by unfold nmOk at h; simp at h ⊢; exact h.2
/-- an object of the base, as read -/
noncomputable def GO (P : Params) (h : Heap) (a : Addr) : O → Prop
  | .list xs => ∃ vs, h.IsList a vs ∧ RVs [] xs vs.toList
  | .tuple xs => ∃ vs, h.IsTuple a vs ∧ RVs [] xs vs.toList
  | o => ∃ ob, h.get? a = some ob ∧ RO P [] o ob
theorem GO.keeps {P : Params} {h h' : Heap} {a : Addr} {o : O} (x : GO P h a o) (k : ∀ b o, h.get? b = some o → h'.get? b = some o) : GO P h' a o := by
  cases o with
  | list xs => obtain ⟨vs, ⟨o, ho, r⟩, r2⟩ := x; exact ⟨vs, ⟨o, k _ _ ho, r⟩, r2⟩
  | tuple xs => obtain ⟨vs, ⟨o, ho, r⟩, r2⟩ := x; exact ⟨vs, ⟨o, k _ _ ho, r⟩, r2⟩
  | inst C d => obtain ⟨ob, h1, h2⟩ := x; exact ⟨ob, k _ _ h1, h2⟩
  | ns es => obtain ⟨ob, h1, h2⟩ := x; exact ⟨ob, k _ _ h1, h2⟩
  | tdict es => obtain ⟨ob, h1, h2⟩ := x; exact ⟨ob, k _ _ h1, h2⟩
  | mdict es => obtain ⟨ob, h1, h2⟩ := x; exact ⟨ob, k _ _ h1, h2⟩
structure Cx.Ok (C : Cx) : Prop where
  gob : ∀ a o, (a, o) ∈ C.gob → GO C.w.params C.G a o
  g : C.G.Ns mainGlobals C.mg
  b : C.G.Ns builtinsNs C.mb
  glo : ∀ x v, (x, v) ∈ C.glo → C.mg x = some v ∨ (C.mg x = none ∧ C.mb x = some v)
  lim : C.G.NoLimit

structure HR (C : Cx) (ad : List Addr) (σ : AH) (h : Heap) : Prop where
  ok : C.Ok
  keep : ∀ b o, C.G.get? b = some o → h.get? b = some o
  len : ad.length = σ.length
  nd : ad.Nodup
  off : ∀ a ∈ ad, C.G.get? a = none
  low : ∀ a ∈ ad, a ≠ sysModules
  obj : ∀ (i : Nat) (o : O) (a : Addr), σ[i]? = some o → ad[i]? = some a → ∃ ob, h.get? a = some ob ∧ RO C.w.params ad o ob

noncomputable def fa (env : Env) : List Addr := env.locals :: env.cells.map (·.2)

structure ER (C : Cx) (env : Env) (ρ : Loc) (ad : List Addr) (h : Heap) : Prop where
  kind : env.scope.kind = .function
  glob : env.globals = mainGlobals
  blt : env.builtins = builtinsNs
  nd : (ρ.map (·.1)).Nodup
  kd : ∀ x v, (x, v) ∈ ρ → env.kindOf x = some .local ∨ ((env.kindOf x = some .cell ∨ env.kindOf x = some .free) ∧ (env.cells.lookup x).isSome = true)
  m : ∃ m, h.Ns env.locals m ∧ ∀ x v, (x, some v) ∈ ρ → env.kindOf x = some .local → ∃ u, m x = some u ∧ RV ad v u
  cell : ∀ x c, env.cells.lookup x = some c → ∃ o w, h.get? c = some o ∧ o.data = .cell w ∧ (∀ v, (x, some v) ∈ ρ → env.kindOf x ≠ some .local → ∃ u, w = some u ∧ RV ad v u)
  cinj : ∀ x y c, env.cells.lookup x = some c → env.cells.lookup y = some c → x = y
  cl : ∀ x c, env.cells.lookup x = some c → c ≠ env.locals
  off : ∀ a ∈ fa env, C.G.get? a = none ∧ a ∉ ad
  lt : ∀ a ∈ fa env, a < h.objs.size
  nm : ∀ x v, (x, v) ∈ ρ → nmOk x = true
  gk : ∀ x v, (x, v) ∈ C.glo → env.kindOf x = some .globalImplicit ∧ nmOk x = true

structure Nx (C : Cx) (ch : List Addr) (ad : List Addr) (s : Shared) (ad' : List Addr) (σ' : AH) (s' : Shared) : Prop where
  eq : ∃ h tk, s' = { s with heap := h, toks := tk }
  pre : ∃ nw, ad' = ad ++ nw ∧ ∀ a ∈ nw, s.heap.objs.size ≤ a
  size : s.heap.objs.size ≤ s'.heap.objs.size
  same : ∀ b o, s.heap.get? b = some o → b ∉ ad → b ∉ ch → s'.heap.get? b = some o
  hr : HR C ad' σ' s'.heap

theorem mem_cells {env : Env} {x : Str} {c : Addr} (h : env.cells.lookup x = some c) : c ∈ fa env := by
  unfold fa
  refine List.mem_cons_of_mem _ ?_
  generalize env.cells = l at h
  induction l with
  | nil => simp at h
  | cons p r ih =>
    obtain ⟨y, d⟩ := p
    simp only [List.lookup_cons] at h
    split at h
    · cases h; simp
    · simp only [List.map_cons, List.mem_cons]; exact .inr (ih h)

theorem Nx.refl {C : Cx} {ch ad : List Addr} {σ : AH} {s : Shared} (h : HR C ad σ s.heap) : Nx C ch ad s ad σ s :=
  ⟨⟨s.heap, s.toks, rfl⟩, ⟨[], by simp, by simp⟩, Nat.le_refl _, fun _ _ e _ _ => e, h⟩
theorem Nx.tok {C : Cx} {ch ad : List Addr} {σ : AH} {s : Shared} (t : Nat) (h : HR C ad σ s.heap) : Nx C ch ad s ad σ { s with toks := t } :=
  ⟨⟨s.heap, t, rfl⟩, ⟨[], by simp, by simp⟩, Nat.le_refl _, fun _ _ e _ _ => e, h⟩
theorem Nx.trans {C : Cx} {ch ad ad1 ad2 : List Addr} {σ1 σ2 : AH} {s s1 s2 : Shared} (a : Nx C ch ad s ad1 σ1 s1) (b : Nx C ch ad1 s1 ad2 σ2 s2) : Nx C ch ad s ad2 σ2 s2 := by
  obtain ⟨h1, t1, e1⟩ := a.eq
  obtain ⟨h2, t2, e2⟩ := b.eq
  obtain ⟨n1, p1, q1⟩ := a.pre
  obtain ⟨n2, p2, q2⟩ := b.pre
  refine ⟨⟨h2, t2, by rw [e2, e1]⟩, ⟨n1 ++ n2, by rw [p2, p1, List.append_assoc], ?_⟩, Nat.le_trans a.size b.size, ?_, b.hr⟩
  · intro x hx
    rcases List.mem_append.mp hx with hx | hx
    · exact q1 x hx
    · exact Nat.le_trans a.size (q2 x hx)
  · intro x o e n c
    refine b.same x o (a.same x o e n c) ?_ c
    rw [p1]
    intro hx
    rcases List.mem_append.mp hx with hx | hx
    · exact n hx
    · exact absurd (Heap.lt_size e) (Nat.not_lt.mpr (q1 x hx))
theorem Nx.weak {C : Cx} {ch ad ad1 : List Addr} {σ1 : AH} {s s1 : Shared} (a : Nx C [] ad s ad1 σ1 s1) : Nx C ch ad s ad1 σ1 s1 :=
  ⟨a.eq, a.pre, a.size, fun b o e n _ => a.same b o e n (by simp), a.hr⟩
theorem Nx.rv {C : Cx} {ch ad ad1 : List Addr} {σ1 : AH} {s s1 : Shared} (a : Nx C ch ad s ad1 σ1 s1) {v : V} {x : Value} (h : RV ad v x) : RV ad1 v x := by
  obtain ⟨n1, p1, q1⟩ := a.pre; rw [p1]; exact h.mono
theorem Nx.rvs {C : Cx} {ch ad ad1 : List Addr} {σ1 : AH} {s s1 : Shared} (a : Nx C ch ad s ad1 σ1 s1) {v : List V} {x : List Value} (h : RVs ad v x) : RVs ad1 v x := by
  obtain ⟨n1, p1, q1⟩ := a.pre; rw [p1]; exact h.mono

theorem ER.next {C : Cx} {env : Env} {ρ : Loc} {ad ad1 : List Addr} {σ1 : AH} {s s1 : Shared} (r : ER C env ρ ad s.heap) (a : Nx C [] ad s ad1 σ1 s1) : ER C env ρ ad1 s1.heap := by
  have keep : ∀ b ∈ fa env, ∀ o, s.heap.get? b = some o → s1.heap.get? b = some o := fun b hb o e => a.same b o e (r.off b hb).2 (by simp)
  refine ⟨r.kind, r.glob, r.blt, r.nd, r.kd, ?_, ?_, r.cinj, r.cl, ?_, fun b hb => Nat.lt_of_lt_of_le (r.lt b hb) a.size, r.nm, r.gk⟩
  · obtain ⟨m, hm, h⟩ := r.m
    refine ⟨m, hm.at' fun o e => keep _ (by simp [fa]) o e, fun x v hx hk => ?_⟩
    obtain ⟨u, h1, h2⟩ := h x v hx hk
    exact ⟨u, h1, a.rv h2⟩
  · intro x c hc
    obtain ⟨o, w, h1, h2, h3⟩ := r.cell x c hc
    refine ⟨o, w, keep c (mem_cells hc) o h1, h2, fun v hv hk => ?_⟩
    obtain ⟨u, e, hu⟩ := h3 v hv hk
    exact ⟨u, e, a.rv hu⟩
  · intro b hb
    refine ⟨(r.off b hb).1, ?_⟩
    obtain ⟨n1, p1, q1⟩ := a.pre
    rw [p1]
    intro hx
    rcases List.mem_append.mp hx with hx | hx
    · exact (r.off b hb).2 hx
    · exact absurd (r.lt b hb) (Nat.not_lt.mpr (q1 b hx))

end Mine

-- part Aw2
set_option autoImplicit false
set_option linter.unusedVariables false
namespace Mine
open PySem PyProof.Rows

inductive Fl where
  | next
  | brk
  | cont
  | ret (v : V)
noncomputable def RF (ad : List Addr) : Fl → Flow → Prop
  | .next, f => f = .next
  | .brk, f => f = .brk
  | .cont, f => f = .cont
  | .ret v, f => ∃ u, f = .ret u ∧ RV ad v u

/- the syntax looked at, cheaply -/
noncomputable def isCompE : Expr → Bool
  | .ListComp .. => true
  | .SetComp .. => true
  | .DictComp .. => true
  | _ => false
theorem swaps_not {e : Expr} {t : Option Expr} {l : Nat} {env : Env} (h : isCompE e = false) : swapsWith e t l env = pure false := by
  cases e <;> first | rfl | cases h
noncomputable def isSetE : Expr → Bool
  | .Set .. => true
  | _ => false
theorem folded_not {e : Expr} {env : Env} (h : isSetE e = false) : ∀ x, foldedSetIterable e env x = pure x := by
  intro x
  cases e <;> first | rfl | cases h
theorem marks_not {op : CmpOp} {e : Expr} (h : isSetE e = false) : behindInMarks op e = false := by
  cases e <;> first | rfl | cases h
noncomputable def starE : Expr → Bool
  | .Starred .. => true
  | _ => false
theorem star_not {e : Expr} {es : List Expr} {env : Env} (h : starE e = false) : starEach (e :: es) env = (false, eval e env) :: starEach es env := by
  cases e <;> first | rfl | cases h
theorem assign_not {e : Expr} {es : List Expr} {env : Env} (h : starE e = false) : assignEach (e :: es) env = (false, assign e env) :: assignEach es env := by
  cases e <;> first | rfl | cases h
noncomputable def plainTest : Expr → Bool
  | .UnaryOp .Not _ _ => false
  | .BoolOp .. => false
  | .IfExp .. => false
  | .Compare .. => false
  | _ => true
theorem test_plain {e : Expr} {env : Env} (h : plainTest e = true) : ∀ whole, isTrue e env whole = (do let v ← whole; standAt e.pos; holding [v] (truthy v)) := by
  intro w
  cases e with
  | UnaryOp op x p => cases op <;> first | rfl | cases h
  | _ => first | rfl | cases h

abbrev EX := Value → Shared → Prop
inductive PE (C : Cx) (ad : List Addr) (s : Shared) (Q : V → AH → Prop) (u : Value) (s' : Shared) : Prop
  | mk (ad' : List Addr) (σ' : AH) (v : V) (n : Nx C [] ad s ad' σ' s') (r : RV ad' v u) (h : Q v σ')
inductive PB (C : Cx) (ad : List Addr) (s : Shared) (Q : Bool → AH → Prop) (u : Bool) (s' : Shared) : Prop
  | mk (ad' : List Addr) (σ' : AH) (n : Nx C [] ad s ad' σ' s') (h : Q u σ')
inductive PL (C : Cx) (ad : List Addr) (s : Shared) (Q : List V → AH → Prop) (u : List Value) (s' : Shared) : Prop
  | mk (ad' : List Addr) (σ' : AH) (v : List V) (n : Nx C [] ad s ad' σ' s') (r : RVs ad' v u) (h : Q v σ')
inductive PS (C : Cx) (env : Env) (ad : List Addr) (s : Shared) (Q : Fl → Loc → AH → Prop) (f : Flow) (s' : Shared) : Prop
  | mk (ad' : List Addr) (σ' : AH) (ρ' : Loc) (fl : Fl) (n : Nx C (fa env) ad s ad' σ' s') (e : ER C env ρ' ad' s'.heap) (r : RF ad' fl f) (h : Q fl ρ' σ')

structure WE (C : Cx) (A : Around) (env : Env) (e : Expr) (ρ : Loc) (σ : AH) (Q : V → AH → Prop) (E : EX) : Prop where
  run : ∀ ad s, HR C ad σ s.heap → ER C env ρ ad s.heap → wpAny (model C.prog C.w) A (eval e env) (PE C ad s Q) E s
structure WB (C : Cx) (A : Around) (env : Env) (e : Expr) (ρ : Loc) (σ : AH) (Q : Bool → AH → Prop) (E : EX) : Prop where
  run : ∀ ad s, HR C ad σ s.heap → ER C env ρ ad s.heap → wpAny (model C.prog C.w) A (isTrue e env (eval e env)) (PB C ad s Q) E s
structure WL (C : Cx) (A : Around) (env : Env) (es : List Expr) (ρ : Loc) (σ : AH) (Q : List V → AH → Prop) (E : EX) : Prop where
  run : ∀ ad s pos, HR C ad σ s.heap → ER C env ρ ad s.heap → wpAny (model C.prog C.w) A (spliced (backTo pos (starEach es env))) (PL C ad s Q) E s
structure WS (C : Cx) (A : Around) (env : Env) (st : Stmt) (ρ : Loc) (σ : AH) (Q : Fl → Loc → AH → Prop) (E : EX) : Prop where
  run : ∀ ad s, HR C ad σ s.heap → ER C env ρ ad s.heap → wpAny (model C.prog C.w) A (exec st env) (PS C env ad s Q) E s
structure WSs (C : Cx) (A : Around) (env : Env) (st : List Stmt) (ρ : Loc) (σ : AH) (Q : Fl → Loc → AH → Prop) (E : EX) : Prop where
  run : ∀ ad s, HR C ad σ s.heap → ER C env ρ ad s.heap → wpAny (model C.prog C.w) A (execs st env) (PS C env ad s Q) E s
structure WOp2 (C : Cx) (A : Around) (t : Value → Value → Sem Value) (a b : V) (σ : AH) (Q : V → AH → Prop) (E : EX) : Prop where
  run : ∀ ad s x y, HR C ad σ s.heap → RV ad a x → RV ad b y → wpAny (model C.prog C.w) A (t x y) (PE C ad s Q) E s
structure WOp1 (C : Cx) (A : Around) (t : Value → Sem Value) (a : V) (σ : AH) (Q : V → AH → Prop) (E : EX) : Prop where
  run : ∀ ad s x, HR C ad σ s.heap → RV ad a x → wpAny (model C.prog C.w) A (t x) (PE C ad s Q) E s
structure WTr (C : Cx) (A : Around) (a : V) (σ : AH) (Q : Bool → AH → Prop) (E : EX) : Prop where
  run : ∀ ad s x, HR C ad σ s.heap → RV ad a x → wpAny (model C.prog C.w) A (truthy x) (PB C ad s Q) E s
structure WC (C : Cx) (A : Around) (f : Value) (args : List V) (σ : AH) (Q : V → AH → Prop) (E : EX) : Prop where
  run : ∀ ad s xs, HR C ad σ s.heap → RVs ad args xs → wpAny (model C.prog C.w) A (call f xs) (PE C ad s Q) E s

section
variable {C : Cx} {A : Around} {env : Env} {ρ : Loc} {σ : AH} {E : EX}

theorem PE.trans {ad ad1 : List Addr} {s s1 s' : Shared} {σ1 : AH} {Q : V → AH → Prop} {u : Value} (n : Nx C [] ad s ad1 σ1 s1) (p : PE C ad1 s1 Q u s') : PE C ad s Q u s' := by
  obtain ⟨ad', σ', v, a, b, c⟩ := p
  exact ⟨ad', σ', v, n.trans a, b, c⟩
theorem PB.trans {ad ad1 : List Addr} {s s1 s' : Shared} {σ1 : AH} {Q : Bool → AH → Prop} {u : Bool} (n : Nx C [] ad s ad1 σ1 s1) (p : PB C ad1 s1 Q u s') : PB C ad s Q u s' := by
  obtain ⟨ad', σ', a, c⟩ := p
  exact ⟨ad', σ', n.trans a, c⟩
theorem PS.trans {ad ad1 : List Addr} {s s1 s' : Shared} {σ1 : AH} {Q : Fl → Loc → AH → Prop} {u : Flow} (n : Nx C (fa env) ad s ad1 σ1 s1) (p : PS C env ad1 s1 Q u s') : PS C env ad s Q u s' := by
  obtain ⟨ad', σ', ρ', fl, a, b, c, d⟩ := p
  exact ⟨ad', σ', ρ', fl, n.trans a, b, c, d⟩

theorem WE.mono {e : Expr} {Q Q' : V → AH → Prop} (h : WE C A env e ρ σ Q E) (hq : ∀ v σ', Q v σ' → Q' v σ') : WE C A env e ρ σ Q' E := .mk fun ad s hr er =>
  wpAny_mono (h.run ad s hr er) (fun _ _ ⟨a, b, c, d, e, f⟩ => ⟨a, b, c, d, e, hq _ _ f⟩) fun _ _ x => x
/- expressions -/
theorem WE_int {i : Int} {k : Nat} {pos : Pos} {Q : V → AH → Prop} (h : Q (.int i) σ) : WE C A env (.Constant (.int i) k pos) ρ σ Q E := .mk <|
  fun ad s hr _ => wpAny_Constant_int ⟨ad, σ, .int i, Nx.tok _ hr, ⟨_, rfl⟩, h⟩
theorem WE_str {i : Str} {k : Nat} {pos : Pos} {Q : V → AH → Prop} (h : Q (.str i) σ) : WE C A env (.Constant (.str i) k pos) ρ σ Q E := .mk <|
  fun ad s hr _ => wpAny_Constant_str ⟨ad, σ, .str i, Nx.tok _ hr, ⟨_, rfl⟩, h⟩
theorem WE_none {k : Nat} {pos : Pos} {Q : V → AH → Prop} (h : Q .none σ) : WE C A env (.Constant .none k pos) ρ σ Q E := .mk <|
  fun ad s hr _ => wpAny_Constant_none ⟨ad, σ, .none, Nx.refl hr, rfl, h⟩
theorem WE_bool {b : Bool} {k : Nat} {pos : Pos} {Q : V → AH → Prop} (h : Q (.bool b) σ) : WE C A env (.Constant (.bool b) k pos) ρ σ Q E := .mk <|
  fun ad s hr _ => wpAny_Constant_bool ⟨ad, σ, .bool b, Nx.refl hr, rfl, h⟩

theorem WE_BinOp {l r : Expr} {op : Operator} {pos : Pos} {Q : V → AH → Prop}
    (h : WE C A env l ρ σ (fun a σ1 => WE C A env r ρ σ1 (fun b σ2 => WOp2 C A (binaryOp op) a b σ2 Q E) E) E) : WE C A env (.BinOp l op r pos) ρ σ Q E := by
  refine ⟨?_⟩
  intro ad s hr er
  refine wpAny_BinOp (wpAny_mono (h.run ad s hr er) ?_ fun _ _ x => x)
  rintro a s1 ⟨ad1, σ1, va, n1, r1, h1⟩
  refine wpAny_mono (h1.run ad1 s1 n1.hr (er.next n1)) ?_ fun _ _ x => x
  rintro b s2 ⟨ad2, σ2, vb, n2, r2, h2⟩
  exact wpAny_mono (h2.run ad2 s2 a b n2.hr (n2.rv r1) r2) (fun u s' p => PE.trans (n1.trans n2) p) fun _ _ x => x
theorem WE_UnaryOp {x : Expr} {op : UnaryOp} {pos : Pos} {Q : V → AH → Prop}
    (h : WE C A env x ρ σ (fun a σ1 => WOp1 C A (unaryOp op) a σ1 Q E) E) : WE C A env (.UnaryOp op x pos) ρ σ Q E := by
  refine ⟨?_⟩
  intro ad s hr er
  refine wpAny_UnaryOp (wpAny_mono (h.run ad s hr er) ?_ fun _ _ x => x)
  rintro a s1 ⟨ad1, σ1, va, n1, r1, h1⟩
  exact wpAny_mono (h1.run ad1 s1 a n1.hr r1) (fun u s' p => PE.trans n1 p) fun _ _ x => x
theorem WE_Compare1 {l r : Expr} {op : CmpOp} {pos : Pos} {Q : V → AH → Prop}
    (h : WE C A env l ρ σ (fun a σ1 => WE C A env r ρ σ1 (fun b σ2 => WOp2 C A (compareOp op) a b σ2 Q E) E) E)
    (hm : isSetE r = false := by rfl) : WE C A env (.Compare l [op] [r] pos) ρ σ Q E := by
  refine ⟨?_⟩
  intro ad s hr er
  refine wpAny_Compare1 (wpAny_mono (h.run ad s hr er) ?_ fun _ _ x => x) (marks_not hm)
  rintro a s1 ⟨ad1, σ1, va, n1, r1, h1⟩
  refine wpAny_mono (h1.run ad1 s1 n1.hr (er.next n1)) ?_ fun _ _ x => x
  rintro b s2 ⟨ad2, σ2, vb, n2, r2, h2⟩
  exact wpAny_mono (h2.run ad2 s2 a b n2.hr (n2.rv r1) r2) (fun u s' p => PE.trans (n1.trans n2) p) fun _ _ x => x
theorem WB_Compare1 {l r : Expr} {op : CmpOp} {pos : Pos} {Q : Bool → AH → Prop}
    (h : WE C A env l ρ σ (fun a σ1 => WE C A env r ρ σ1 (fun b σ2 => WOp2 C A (compareOp op) a b σ2 (fun c σ3 => WTr C A c σ3 Q E) E) E) E)
    (hm : isSetE r = false := by rfl) : WB C A env (.Compare l [op] [r] pos) ρ σ Q E := by
  refine ⟨?_⟩
  intro ad s hr er
  refine wpAny_isTrue_Compare1 (wpAny_mono (h.run ad s hr er) ?_ fun _ _ x => x) (marks_not hm)
  rintro a s1 ⟨ad1, σ1, va, n1, r1, h1⟩
  refine wpAny_mono (h1.run ad1 s1 n1.hr (er.next n1)) ?_ fun _ _ x => x
  rintro b s2 ⟨ad2, σ2, vb, n2, r2, h2⟩
  refine wpAny_mono (h2.run ad2 s2 a b n2.hr (n2.rv r1) r2) ?_ fun _ _ x => x
  rintro c s3 ⟨ad3, σ3, vc, n3, r3, h3⟩
  exact wpAny_mono (h3.run ad3 s3 c n3.hr r3) (fun u s' p => PB.trans ((n1.trans n2).trans n3) p) fun _ _ x => x
theorem WTr_bool {b : Bool} {Q : Bool → AH → Prop} (h : Q b σ) : WTr C A (.bool b) σ Q E := by
  refine ⟨?_⟩
  rintro ad s x hr rfl
  exact wpAny_truthy_bool ⟨ad, σ, Nx.refl hr, h⟩
theorem WB_plain {e : Expr} {Q : Bool → AH → Prop} (h : WE C A env e ρ σ (fun v σ1 => WTr C A v σ1 Q E) E)
    (hp : plainTest e = true := by rfl) : WB C A env e ρ σ Q E := by
  refine ⟨?_⟩
  intro ad s hr er
  rw [test_plain hp]
  refine wpAny_bind (wpAny_mono (h.run ad s hr er) ?_ fun _ _ x => x)
  rintro a s1 ⟨ad1, σ1, va, n1, r1, h1⟩
  exact wpAny_bind (wpAny_standAt (wpAny_holding (wpAny_mono (h1.run ad1 s1 a n1.hr r1) (fun u s' p => PB.trans n1 p) fun _ _ x => x)))
theorem WB_and_nil {pos : Pos} {Q : Bool → AH → Prop} (h : Q true σ) : WB C A env (.BoolOp .And [] pos) ρ σ Q E := .mk fun ad _ hr _ => isTrue_and_nil ⟨ad, σ, Nx.refl hr, h⟩
theorem WB_or_nil {pos : Pos} {Q : Bool → AH → Prop} (h : Q false σ) : WB C A env (.BoolOp .Or [] pos) ρ σ Q E := .mk fun ad _ hr _ => isTrue_or_nil ⟨ad, σ, Nx.refl hr, h⟩
theorem isTrue_BoolOp_whole {op : BoolOp} {vs : List Expr} {pos : Pos} (x y : Sem Value) : isTrue (.BoolOp op vs pos) env x = isTrue (.BoolOp op vs pos) env y := rfl
theorem WB_and {x : Expr} {rest : List Expr} {pos : Pos} {Q : Bool → AH → Prop} (h : WB C A env x ρ σ (fun b σ1 => if b then WB C A env (.BoolOp .And rest pos) ρ σ1 Q E else Q false σ1) E) :
    WB C A env (.BoolOp .And (x :: rest) pos) ρ σ Q E := by
  refine ⟨?_⟩
  intro ad s hr er
  refine isTrue_and (wpAny_mono (h.run ad s hr er) ?_ fun _ _ x => x)
  rintro b s1 ⟨ad1, σ1, n1, h1⟩
  cases b with
  | false => exact ⟨ad1, σ1, n1, h1⟩
  | true => rw [isTrue_BoolOp_whole _ (eval (.BoolOp .And rest pos) env)]; exact wpAny_mono (h1.run ad1 s1 n1.hr (er.next n1)) (fun u s' p => PB.trans n1 p) fun _ _ x => x
theorem WB_or {x : Expr} {rest : List Expr} {pos : Pos} {Q : Bool → AH → Prop} (h : WB C A env x ρ σ (fun b σ1 => if b then Q true σ1 else WB C A env (.BoolOp .Or rest pos) ρ σ1 Q E) E) :
    WB C A env (.BoolOp .Or (x :: rest) pos) ρ σ Q E := by
  refine ⟨?_⟩
  intro ad s hr er
  refine isTrue_or (wpAny_mono (h.run ad s hr er) ?_ fun _ _ x => x)
  rintro b s1 ⟨ad1, σ1, n1, h1⟩
  cases b with
  | true => exact ⟨ad1, σ1, n1, h1⟩
  | false => rw [isTrue_BoolOp_whole _ (eval (.BoolOp .Or rest pos) env)]; exact wpAny_mono (h1.run ad1 s1 n1.hr (er.next n1)) (fun u s' p => PB.trans n1 p) fun _ _ x => x
theorem WE_IfExp {test body orelse : Expr} {pos : Pos} {Q : V → AH → Prop} (h : WB C A env test ρ σ (fun b σ1 => if b then WE C A env body ρ σ1 Q E else WE C A env orelse ρ σ1 Q E) E) :
    WE C A env (.IfExp test body orelse pos) ρ σ Q E := by
  refine ⟨?_⟩
  intro ad s hr er
  refine wpAny_IfExp (wpAny_mono (h.run ad s hr er) ?_ fun _ _ x => x)
  rintro b s1 ⟨ad1, σ1, n1, h1⟩
  cases b with
  | true => exact wpAny_mono (h1.run ad1 s1 n1.hr (er.next n1)) (fun u s' p => PE.trans n1 p) fun _ _ x => x
  | false => exact wpAny_mono (h1.run ad1 s1 n1.hr (er.next n1)) (fun u s' p => PE.trans n1 p) fun _ _ x => x
/- lists of expressions -/
theorem WL_nil {Q : List V → AH → Prop} (h : Q [] σ) : WL C A env [] ρ σ Q E := .mk fun ad _ _ hr _ => Calls.spliced_nil ⟨ad, σ, [], Nx.refl hr, .nil, h⟩
theorem WL_cons {e : Expr} {es : List Expr} {Q : List V → AH → Prop} (h : WE C A env e ρ σ (fun v σ1 => WL C A env es ρ σ1 (fun vs σ2 => Q (v :: vs) σ2) E) E)
    (he : starE e = false := by rfl) : WL C A env (e :: es) ρ σ Q E := by
  refine ⟨?_⟩
  intro ad s pos hr er
  rw [star_not he]
  refine Calls.spliced_cons (wpAny_mono (h.run ad s hr er) ?_ fun _ _ x => x)
  rintro a s1 ⟨ad1, σ1, va, n1, r1, h1⟩
  refine wpAny_mono (h1.run ad1 s1 pos n1.hr (er.next n1)) ?_ fun _ _ x => x
  rintro b s2 ⟨ad2, σ2, vb, n2, r2, h2⟩
  exact ⟨ad2, σ2, va :: vb, n1.trans n2, .cons (n2.rv r1) r2, h2⟩

/- names -/
theorem WE_name {x : Str} {pos : Pos} {v : V} {Q : V → AH → Prop} (hx : (x, some v) ∈ ρ) (h : Q v σ) :
    WE C A env (.Name x pos) ρ σ Q E := by
  refine ⟨?_⟩
  intro ad s hr er
  have hn := nmOk_c (er.nm x _ hx)
  refine wpAny_Name ?_ (nmOk_d (er.nm x _ hx))
  rcases er.kd x _ hx with hk | ⟨hk, hc⟩
  · obtain ⟨m, hm, h1⟩ := er.m
    obtain ⟨u, hu, rv⟩ := h1 x v hx hk
    exact wpAny_loadName_local er.kind hk hm hu ⟨ad, σ, v, Nx.refl hr, rv, h⟩
  · obtain ⟨c, hc⟩ := Option.isSome_iff_exists.mp hc
    obtain ⟨o, w, ho, hw, hv⟩ := er.cell x c hc
    obtain ⟨u, e, rv⟩ := hv v hx (by rcases hk with hk | hk <;> rw [hk] <;> simp)
    subst e
    rcases hk with hk | hk
    · exact wpAny_loadName_cell er.kind hk hc ⟨o, ho, hw⟩ ⟨ad, σ, v, Nx.refl hr, rv, h⟩
    · exact wpAny_loadName_free er.kind hk hc ⟨o, ho, hw⟩ ⟨ad, σ, v, Nx.refl hr, rv, h⟩ hn
theorem WE_glob {C : Cx} {l : List (Str × Value)} {x : Str} {pos : Pos} {v : Value} {Q : V → AH → Prop} (hx : (x, v) ∈ l) (h : Q (.k v) σ) :
    WE (C.wg l) A env (.Name x pos) ρ σ Q E := by
  refine ⟨?_⟩
  intro ad s hr er
  obtain ⟨hk, hn⟩ := er.gk x v hx
  refine Calls.Name_function_global er.kind hk ?_ (nmOk_d hn)
  have fin : PE (C.wg l) ad s Q v s := ⟨ad, σ, .k v, Nx.refl hr, rfl, h⟩
  rcases hr.ok.glo x v hx with e | ⟨e1, e2⟩
  · exact Calls.loadGlobal_global (by rw [er.glob]; exact hr.ok.g.keeps hr.keep) e fin
  · exact Calls.loadGlobal_builtin (by rw [er.glob]; exact hr.ok.g.keeps hr.keep) e1 (by rw [er.blt]; exact hr.ok.b.keeps hr.keep) e2 fin

/- statements -/
theorem PS.ofE {ad : List Addr} {s s1 : Shared} {ad1 : List Addr} {σ1 : AH} {Q : Fl → Loc → AH → Prop} {fl : Fl} {f : Flow} (er : ER C env ρ ad s.heap) (n : Nx C [] ad s ad1 σ1 s1) (hf : RF ad1 fl f) (h : Q fl ρ σ1) : PS C env ad s Q f s1 :=
  ⟨ad1, σ1, ρ, fl, n.weak, er.next n, hf, h⟩
theorem WSs_nil {Q : Fl → Loc → AH → Prop} (h : Q .next ρ σ) : WSs C A env [] ρ σ Q E := .mk fun ad s hr er => wpAny_execs_nil ⟨ad, σ, ρ, .next, Nx.refl hr, er, rfl, h⟩
structure Thn (C : Cx) (A : Around) (env : Env) (rest : List Stmt) (Q : Fl → Loc → AH → Prop) (E : EX) (fl : Fl) (ρ : Loc) (σ : AH) : Prop where
  run : match fl with
    | .next => WSs C A env rest ρ σ Q E
    | f => Q f ρ σ
theorem Thn_next {rest : List Stmt} {Q : Fl → Loc → AH → Prop} (h : WSs C A env rest ρ σ Q E) : Thn C A env rest Q E .next ρ σ := ⟨h⟩
theorem Thn_ret {rest : List Stmt} {Q : Fl → Loc → AH → Prop} {v : V} (h : Q (.ret v) ρ σ) : Thn C A env rest Q E (.ret v) ρ σ := ⟨h⟩
theorem Thn_brk {rest : List Stmt} {Q : Fl → Loc → AH → Prop} (h : Q .brk ρ σ) : Thn C A env rest Q E .brk ρ σ := ⟨h⟩
theorem Thn_cont {rest : List Stmt} {Q : Fl → Loc → AH → Prop} (h : Q .cont ρ σ) : Thn C A env rest Q E .cont ρ σ := ⟨h⟩
theorem WSs_cons {st : Stmt} {rest : List Stmt} {Q : Fl → Loc → AH → Prop} (h : WS C A env st ρ σ (Thn C A env rest Q E) E) : WSs C A env (st :: rest) ρ σ Q E := by
  refine ⟨?_⟩
  intro ad s hr er
  refine wpAny_execs_cons (wpAny_mono (h.run ad s hr er) ?_ fun _ _ x => x)
  rintro f s1 ⟨ad1, σ1, ρ1, fl, n1, e1, r1, ⟨h1⟩⟩
  cases fl with
  | next => cases r1; exact wpAny_mono (h1.run ad1 s1 n1.hr e1) (fun u s' p => PS.trans n1 p) fun _ _ x => x
  | brk => cases r1; exact ⟨ad1, σ1, ρ1, .brk, n1, e1, rfl, h1⟩
  | cont => cases r1; exact ⟨ad1, σ1, ρ1, .cont, n1, e1, rfl, h1⟩
  | ret v => obtain ⟨u, rfl, ru⟩ := r1; exact ⟨ad1, σ1, ρ1, .ret v, n1, e1, ⟨u, rfl, ru⟩, h1⟩
theorem WS_return {e : Expr} {pos : Pos} {Q : Fl → Loc → AH → Prop} (h : WE C A env e ρ σ (fun v σ1 => Q (.ret v) ρ σ1) E) : WS C A env (.Return (some e) pos) ρ σ Q E := by
  refine ⟨?_⟩
  intro ad s hr er
  refine wpAny_Return_some (wpAny_mono (h.run ad s hr er) ?_ fun _ _ x => x)
  rintro a s1 ⟨ad1, σ1, va, n1, r1, h1⟩
  exact PS.ofE er n1 (fl := .ret va) ⟨a, rfl, r1⟩ h1
theorem WS_if {test : Expr} {body orelse : List Stmt} {pos : Pos} {Q : Fl → Loc → AH → Prop} (h : WB C A env test ρ σ (fun b σ1 => if b then WSs C A env body ρ σ1 Q E else WSs C A env orelse ρ σ1 Q E) E) : WS C A env (.If test body orelse pos) ρ σ Q E := by
  refine ⟨?_⟩
  intro ad s hr er
  refine wpAny_If (wpAny_mono (h.run ad s hr er) ?_ fun _ _ x => x)
  rintro b s1 ⟨ad1, σ1, n1, h1⟩
  cases b with
  | true => exact wpAny_mono (h1.run ad1 s1 n1.hr (er.next n1)) (fun u s' p => PS.trans n1.weak p) fun _ _ x => x
  | false => exact wpAny_mono (h1.run ad1 s1 n1.hr (er.next n1)) (fun u s' p => PS.trans n1.weak p) fun _ _ x => x

inductive Up (x : Str) (v : Option V) : Loc → Loc → Prop
  | head {w : Option V} {r : Loc} : Up x v ((x, w) :: r) ((x, v) :: r)
  | tail {p : Str × Option V} {r r' : Loc} : Up x v r r' → Up x v (p :: r) (p :: r')
theorem Up.names {x : Str} {v : Option V} {r r' : Loc} (h : Up x v r r') : r'.map (·.1) = r.map (·.1) := by
  induction h with
  | head => rfl
  | tail _ ih => simp [ih]
theorem Up.mem {x : Str} {v : Option V} {r r' : Loc} (h : Up x v r r') : ∃ w, (x, w) ∈ r := by
  induction h with
  | head => exact ⟨_, .head _⟩
  | tail _ ih => obtain ⟨w, h⟩ := ih; exact ⟨w, .tail _ h⟩
theorem Up.new {x : Str} {v : Option V} {r r' : Loc} (h : Up x v r r') (nd : (r.map (·.1)).Nodup) : ∀ y w, (y, w) ∈ r' → (y = x ∧ w = v) ∨ (y ≠ x ∧ (y, w) ∈ r) := by
  induction h with
  | @head w0 r =>
    intro y w hm
    rcases List.mem_cons.mp hm with e | hm2
    · cases e; exact .inl ⟨rfl, rfl⟩
    · refine .inr ⟨?_, List.mem_cons_of_mem _ hm2⟩
      intro e
      subst e
      simp only [List.map_cons, List.nodup_cons] at nd
      exact nd.1 (List.mem_map.mpr ⟨(y, w), hm2, rfl⟩)
  | @tail p r r' u ih =>
    intro y w hm
    simp only [List.map_cons, List.nodup_cons] at nd
    rcases List.mem_cons.mp hm with e | hm
    · cases e
      refine .inr ⟨?_, .head _⟩
      rintro rfl
      obtain ⟨w', h'⟩ := u.mem
      exact nd.1 (List.mem_map.mpr ⟨_, h', rfl⟩)
    · rcases ih nd.2 y w hm with h1 | h1
      · exact .inl h1
      · exact .inr ⟨h1.1, .tail _ h1.2⟩

theorem exUp {x : Str} {v : Option V} {ρ ρ' : Loc} {P : Loc → Prop} (h : Up x v ρ ρ') (k : P ρ') : ∃ ρ', Up x v ρ ρ' ∧ P ρ' := ⟨_, h, k⟩
/-- a store of a name -/
theorem store_name {x : Str} {v : V} {ρ' : Loc} {u : Value} {ad : List Addr} {s : Shared} {R : Unit → Shared → Prop} (hr : HR C ad σ s.heap) (er : ER C env ρ ad s.heap) (up : Up x (some v) ρ ρ') (rv : RV ad v u)
    (h : ∀ s', Nx C (fa env) ad s ad σ s' → ER C env ρ' ad s'.heap → R () s') : wpAny (model C.prog C.w) A (storeName env x u) R E s := by
  obtain ⟨w0, hw0⟩ := up.mem
  have hoff : ∀ b ∈ fa env, b ∉ ad ∧ C.G.get? b = none := fun b hb => ⟨(er.off b hb).2, (er.off b hb).1⟩
  have fin : ∀ a h' tk, a ∈ fa env → Heap.SameBut a s.heap h' → HR C ad σ h' ∧ (Nx C (fa env) ad s ad σ { s with heap := h', toks := tk }) := by
    intro a h' tk ha hs
    have hr' : HR C ad σ h' := by
      refine ⟨hr.ok, fun b o e => (hs.2 b ?_).trans (hr.keep b o e), hr.len, hr.nd, hr.off, hr.low, fun i o b h1 h2 => ?_⟩
      · rintro rfl; rw [(hoff b ha).2] at e; cases e
      · obtain ⟨ob, h3, h4⟩ := hr.obj i o b h1 h2
        refine ⟨ob, (hs.2 b ?_).trans h3, h4⟩
        rintro rfl; exact (hoff b ha).1 (List.mem_of_getElem? h2)
    refine ⟨hr', ⟨h', tk, rfl⟩, ⟨[], by simp, by simp⟩, Nat.le_of_eq hs.1.symm, fun b o e _ hc => ?_, hr'⟩
    exact (hs.2 b (fun e' => hc (e' ▸ ha))).trans e
  rcases er.kd x _ hw0 with hk | ⟨hk, hc⟩
  · obtain ⟨m, hm, h1⟩ := er.m
    refine wpAny_storeName_local hk hm (fun h' hn hs => ?_) (by rw [er.kind]; rfl)
    obtain ⟨hr', nx⟩ := fin env.locals h' (s.toks + 1) (by simp [fa]) hs
    refine h _ nx ⟨er.kind, er.glob, er.blt, by rw [up.names]; exact er.nd, fun y w hy => ?_, ⟨_, hn, fun y w hy hyk => ?_⟩, fun y c hc => ?_, er.cinj, er.cl, er.off, fun b hb => by rw [hs.1]; exact er.lt b hb, fun y w hy => ?_, er.gk⟩
    · rcases up.new er.nd y w hy with ⟨rfl, rfl⟩ | ⟨_, hy⟩
      · exact er.kd y _ hw0
      · exact er.kd y w hy
    · rcases up.new er.nd y _ hy with ⟨rfl, e⟩ | ⟨hne, hy⟩
      · cases e; exact ⟨u, by simp, rv⟩
      · simp only [if_neg hne]; exact h1 y w hy hyk
    · obtain ⟨o, w, ho, hw, hv⟩ := er.cell y c hc
      refine ⟨o, w, (hs.2 c (er.cl y c hc)).trans ho, hw, fun v' hv' hk' => ?_⟩
      rcases up.new er.nd y _ hv' with ⟨rfl, e⟩ | ⟨hne, hy⟩
      · exact absurd hk hk'
      · exact hv v' hy hk'
    · rcases up.new er.nd y w hy with ⟨rfl, rfl⟩ | ⟨_, hy⟩
      · exact er.nm y _ hw0
      · exact er.nm y w hy
  · obtain ⟨c, hc⟩ := Option.isSome_iff_exists.mp hc
    obtain ⟨o, w, ho, hw, hv⟩ := er.cell x c hc
    have step : ∀ h', (∃ o', h'.get? c = some o' ∧ o'.data = .cell (some u)) → Heap.SameBut c s.heap h' → R () { s with heap := h' } := by
      rintro h' ⟨o', ho', hd'⟩ hs
      obtain ⟨hr', nx⟩ := fin c h' s.toks (mem_cells hc) hs
      refine h _ nx ⟨er.kind, er.glob, er.blt, by rw [up.names]; exact er.nd, fun y w hy => ?_, ?_, fun y d hd => ?_, er.cinj, er.cl, er.off, fun b hb => by rw [hs.1]; exact er.lt b hb, fun y w hy => ?_, er.gk⟩
      · rcases up.new er.nd y w hy with ⟨rfl, rfl⟩ | ⟨_, hy⟩
        · exact er.kd y _ hw0
        · exact er.kd y w hy
      · obtain ⟨m, hm, h1⟩ := er.m
        refine ⟨m, hm.sameBut hs (Ne.symm (er.cl x c hc)), fun y w hy hyk => ?_⟩
        rcases up.new er.nd y _ hy with ⟨rfl, e⟩ | ⟨hne, hy⟩
        · rcases hk with hk | hk <;> rw [hyk] at hk <;> cases hk
        · exact h1 y w hy hyk
      · by_cases hyx : y = x
        · subst hyx
          rw [hc] at hd; cases hd
          refine ⟨o', _, ho', hd', fun v' hv' _ => ?_⟩
          rcases up.new er.nd y _ hv' with ⟨_, e⟩ | ⟨hne, _⟩
          · cases e; exact ⟨u, rfl, rv⟩
          · exact absurd rfl hne
        · have hdc : d ≠ c := by rintro rfl; exact hyx (er.cinj y x d hd hc)
          obtain ⟨oy, wy, hoy, hwy, hvy⟩ := er.cell y d hd
          refine ⟨oy, wy, (hs.2 d hdc).trans hoy, hwy, fun v' hv' hk' => ?_⟩
          rcases up.new er.nd y _ hv' with ⟨rfl, _⟩ | ⟨_, hy⟩
          · exact absurd rfl hyx
          · exact hvy v' hy hk'
      · rcases up.new er.nd y w hy with ⟨rfl, rfl⟩ | ⟨_, hy⟩
        · exact er.nm y _ hw0
        · exact er.nm y w hy
    rcases hk with hk | hk
    · exact wpAny_storeName_cell er.kind hk hc ⟨o, ho, hw⟩ fun h' hv' hs => step h' hv' hs
    · unfold storeName
      simp only [hk, er.kind]
      exact wpAny_bind (wpAny_cellOf hc (wpAny_cellSet ⟨o, ho, hw⟩ fun h' hv' hs => step h' hv' hs))
theorem WS_assign {x : Str} {p pos : Pos} {e : Expr} {Q : Fl → Loc → AH → Prop} (h : WE C A env e ρ σ (fun v σ1 => ∃ ρ', Up x (some v) ρ ρ' ∧ Q .next ρ' σ1) E)
    (hs : isCompE e = false := by rfl) : WS C A env (.Assign [.Name x p] e pos) ρ σ Q E := by
  refine ⟨?_⟩
  intro ad s hr er
  refine wpAny_Assign_Name (wpAny_mono (h.run ad s hr er) ?_ fun _ _ x => x) (swaps_not hs)
  rintro a s1 ⟨ad1, σ1, va, n1, r1, ρ', up, h1⟩
  exact store_name n1.hr (er.next n1) up r1 fun s' n2 e2 => ⟨ad1, σ1, ρ', .next, n1.weak.trans n2, e2, rfl, h1⟩
end
end Mine

-- part Aw3
set_option autoImplicit false
set_option linter.unusedVariables false
namespace Mine
open PySem PyProof.Rows

abbrev mkFd (name qual : Str) (params : Arguments) (body : List Stmt) (scope : Scope) (dV kV doc pm : Value) (an : Option Addr) (cdv ct : Value) : FuncData :=
  { name, qualname := qual, params, body := .stmts body, scope, globals := mainGlobals, closure := [], defaults := dV, kwdefaults := kV, doc, pyModule := pm, annotations := an, code := cdv, closureTuple := ct, builtins := builtinsNs }

/-- the frame of a def's call -/
noncomputable def dEnv (qual : Str) (scope : Scope) (L a : Addr) (cd : Value) : Env :=
  { scope := scope, locals := L, globals := mainGlobals, cells := cellsFrom (L + 1) scope.names [], qual := qual ++ ".<locals>.", func := some a, code := cd, frame := some L, builtins := builtinsNs }

section
variable {kindOf : Str → Option NameKind}
theorem bindL_not {x : Str} : ∀ (binds : List (Str × Value)) (m : Str → Option Value), x ∉ binds.map (·.1) → bindL kindOf binds m x = m x
  | [], _, _ => rfl
  | (n, v) :: r, m, h => by
    simp only [List.map_cons, List.mem_cons, not_or] at h
    unfold bindL
    rw [bindL_not r _ h.2]
    split
    · simp [h.1]
    · rfl
theorem bindL_mem {x : Str} {u : Value} (hk : kindOf x = some .local) : ∀ (binds : List (Str × Value)) (m : Str → Option Value), (binds.map (·.1)).Nodup → (x, u) ∈ binds → bindL kindOf binds m x = some u
  | [], _, _, h => by cases h
  | (n, v) :: r, m, nd, h => by
    simp only [List.map_cons, List.nodup_cons] at nd
    unfold bindL
    rcases List.mem_cons.mp h with e | h
    · cases e
      rw [bindL_not r _ nd.1]
      simp [hk]
    · exact bindL_mem hk r _ nd.2 h
theorem bindC_not {x : Str} : ∀ (binds : List (Str × Value)) (m : Str → Option Value), x ∉ binds.map (·.1) → bindC kindOf binds m x = m x
  | [], _, _ => rfl
  | (n, v) :: r, m, h => by
    simp only [List.map_cons, List.mem_cons, not_or] at h
    unfold bindC
    rw [bindC_not r _ h.2]
    split
    · rfl
    · simp [h.1]
theorem bindC_mem {x : Str} {u : Value} (hk : kindOf x ≠ some .local) : ∀ (binds : List (Str × Value)) (m : Str → Option Value), (binds.map (·.1)).Nodup → (x, u) ∈ binds → bindC kindOf binds m x = some u
  | [], _, _, h => by cases h
  | (n, v) :: r, m, nd, h => by
    simp only [List.map_cons, List.nodup_cons] at nd
    unfold bindC
    rcases List.mem_cons.mp h with e | h
    · cases e
      rw [bindC_not r _ nd.1]
      simp [hk]
    · exact bindC_mem hk r _ nd.2 h
end

theorem lookup_mem {α β : Type} [BEq α] [LawfulBEq α] {x : α} {c : β} : ∀ {l : List (α × β)}, l.lookup x = some c → (x, c) ∈ l
  | [], h => by simp at h
  | (y, d) :: r, h => by
    simp only [List.lookup_cons] at h
    split at h
    · rename_i e; have := eq_of_beq e; subst this; cases h; exact .head _
    · exact .tail _ (lookup_mem h)
theorem mem_lookup {α β : Type} [BEq α] [LawfulBEq α] {x : α} {c : β} : ∀ {l : List (α × β)}, (l.map (·.1)).Nodup → (x, c) ∈ l → l.lookup x = some c
  | [], _, h => by cases h
  | (y, d) :: r, nd, h => by
    simp only [List.map_cons, List.nodup_cons] at nd
    rcases List.mem_cons.mp h with e | h'
    · cases e; simp
    · have hne : (x == y) = false := by
        cases hb : x == y with
        | false => rfl
        | true => have e := eq_of_beq hb; rw [← e] at nd; exact absurd (List.mem_map.mpr ⟨_, h', rfl⟩) nd.1
      simp only [List.lookup_cons, hne]
      exact mem_lookup nd.2 h'
theorem lookup_isSome {α β : Type} [BEq α] [LawfulBEq α] {x : α} : ∀ {l : List (α × β)}, (l.lookup x).isSome = true ↔ x ∈ l.map (·.1)
  | [] => by simp
  | (y, d) :: r => by
    simp only [List.lookup_cons, List.map_cons, List.mem_cons]
    cases hb : x == y with
    | true => have := eq_of_beq hb; simp [this]
    | false =>
      have hne : x ≠ y := by intro e; subst e; simp at hb
      simp only [hne, false_or]
      exact lookup_isSome
theorem apart_inj {l : List (Str × Addr)} (h : l.Pairwise fun x y => x.2 ≠ y.2) : ∀ {x y : Str} {c : Addr}, (x, c) ∈ l → (y, c) ∈ l → x = y := by
  induction h with
  | nil => intro x y c h; cases h
  | cons h1 _ ih =>
    intro x y c h2 h3
    rcases List.mem_cons.mp h2 with e | h4 <;> rcases List.mem_cons.mp h3 with e' | h5
    · rw [← e] at e'; cases e'; rfl
    · subst e; exact absurd rfl (h1 (y, c) h5)
    · subst e'; exact absurd rfl (h1 (x, c) h4)
    · exact ih h4 h5

theorem HR.lt {C : Cx} {ad : List Addr} {σ : AH} {h : Heap} (hr : HR C ad σ h) {a : Addr} (ha : a ∈ ad) : a < h.objs.size := by
  obtain ⟨i, hi⟩ := List.getElem?_of_mem ha
  have hi' := (List.getElem?_eq_some_iff.mp hi).1
  have : i < σ.length := by rw [← hr.len]; exact hi'
  obtain ⟨ob, h1, _⟩ := hr.obj i σ[i] a (by simp [this]) hi
  exact Heap.lt_size h1
theorem HR.fresh {C : Cx} {ad : List Addr} {σ : AH} {h : Heap} (hr : HR C ad σ h) {a : Addr} (ha : h.objs.size ≤ a) : C.G.get? a = none ∧ a ∉ ad := by
  constructor
  · cases e : C.G.get? a with
    | none => rfl
    | some o => exact absurd (Heap.lt_size (hr.keep a o e)) (Nat.not_lt.mpr ha)
  · intro hm; exact absurd (hr.lt hm) (Nat.not_lt.mpr ha)
theorem HR.freshLow {C : Cx} {ad : List Addr} {σ : AH} {h : Heap} (hr : HR C ad σ h) {a : Addr} (ha : h.objs.size ≤ a) : a ≠ sysModules := by
  have hl : sysModules < h.objs.size := let ⟨_, hn, _⟩ := hr.ok.lim.keeps hr.keep; Nat.lt_trans (by decide) hn.lt
  rintro rfl
  exact absurd hl (Nat.not_lt.mpr ha)
theorem HR.keeps {C : Cx} {ad : List Addr} {σ : AH} {h h' : Heap} (hr : HR C ad σ h) (k : ∀ b o, h.get? b = some o → h'.get? b = some o) : HR C ad σ h' :=
  ⟨hr.ok, fun b o e => k b o (hr.keep b o e), hr.len, hr.nd, hr.off, hr.low, fun i o a h1 h2 => let ⟨ob, h3, h4⟩ := hr.obj i o a h1 h2; ⟨ob, k _ _ h3, h4⟩⟩

noncomputable def retV : Fl → V
  | .ret v => v
  | _ => .none

/-- the raise of a def's body, led through its frame's end -/
noncomputable def EL (C : Cx) (A : Around) (env : Env) (E : EX) : EX := fun e s' => wpAny (model C.prog C.w) (A.deeper env) (leaving env e) (fun _ s'' => E e s'') E s'

theorem zip_mem {pn : List Str} {vs : List V} {xs : List Value} {ad : List Addr} (rv : RVs ad vs xs) : ∀ {x : Str} {v : V}, (x, some v) ∈ pn.zip (vs.map some) → ∃ u, (x, u) ∈ pn.zip xs ∧ RV ad v u := by
  induction rv generalizing pn with
  | nil => intro x v h; simp at h
  | cons r _ ih =>
    intro x v h
    cases pn with
    | nil => simp at h
    | cons p pn =>
      simp only [List.map_cons, List.zip_cons_cons, List.mem_cons] at h
      rcases h with e | h
      · cases e; exact ⟨_, .head _, r⟩
      · obtain ⟨u, h1, h2⟩ := ih h; exact ⟨u, .tail _ h1, h2⟩
theorem zip_names {pn : List Str} {β : Type} {xs : List β} (h : pn.length = xs.length) : (pn.zip xs).map (·.1) = pn := by
  induction pn generalizing xs with
  | nil => simp
  | cons p pn ih => cases xs with
    | nil => simp at h
    | cons x xs => simp only [List.length_cons, Nat.add_right_cancel_iff] at h; simp [ih h]

section
variable {C : Cx} {A : Around} {σ : AH} {E : EX}
theorem HR.wg {l : List (Str × Value)} {ad : List Addr} {h : Heap} (hr : HR C ad σ h) (hl : ∀ x v, (x, v) ∈ l → C.mg x = some v ∨ (C.mg x = none ∧ C.mb x = some v)) : HR (C.wg l) ad σ h :=
  ⟨⟨hr.ok.gob, hr.ok.g, hr.ok.b, hl, hr.ok.lim⟩, hr.keep, hr.len, hr.nd, hr.off, hr.low, hr.obj⟩
theorem HR.gw {l : List (Str × Value)} {ad : List Addr} {h : Heap} (hr : HR (C.wg l) ad σ h) (ok : C.Ok) : HR C ad σ h := ⟨ok, hr.keep, hr.len, hr.nd, hr.off, hr.low, hr.obj⟩
/-- what is known of an env's names -/
noncomputable def Kn (env : Env) (ns : List (Str × NameKind)) : Prop := ∀ x k, ns.lookup x = some k → env.kindOf x = some k
structure WCc (C : Cx) (A : Around) (f : Value) (vs : List V) (σ : AH) (Q : V → AH → Prop) (E : EX) : Prop where
  run : ∀ ad s xs, HR C ad σ s.heap → RVs ad vs xs → codeAny (model C.prog C.w) A (.call f ⟨xs, []⟩) (fun r s' => match r with | .ok (.ret v) => PE C ad s Q v s' | .ok _ => False | .error e => E e s') s
theorem WCc.toWC {f : Value} {vs : List V} {Q : V → AH → Prop} (h : WCc C A f vs σ Q E) : WC C A f vs σ Q E := ⟨fun ad s xs hr rv => wpAny_call (h.run ad s xs hr rv)⟩
/-- a def entered -/
theorem def_entry {f : Addr} {o : Obj} {name qual : Str} {params : Arguments} {body : List Stmt} {scope : Scope} {dV kV doc pm cdv ct : Value} {an : Option Addr} {pn ln : List Str} {gl : List (Str × Value)} {vs dv : List V} {ds : List Value}
    (ho : C.G.get? f = some o) (hd : o.data = .func (mkFd name qual params body scope dV kV doc pm an cdv ct)) (hcd : C.G.CodeRec cdv qual) (hroom : A.depth < recursionLimit)
    (hds : RVs [] dv ds) (hlen : pn.length = vs.length + dv.length) (hgl : ∀ x v, (x, v) ∈ gl → C.mg x = some v ∨ (C.mg x = none ∧ C.mb x = some v))
    (hbind : ∀ (s : Shared) (xs : List Value), (∀ b o, C.G.get? b = some o → s.heap.get? b = some o) → xs.length = vs.length → BindsTo s (mkFd name qual params body scope dV kV doc pm an cdv ct) ⟨xs, []⟩ (pn.zip (xs ++ ds)))
    (hnd : (pn ++ ln).Nodup) (hcn : ((cellsFrom 0 scope.names []).map (·.1)).Nodup)
    (hkd : ((pn ++ ln).all fun x => nmOk x && (scope.names.lookup x == some .local || (scope.names.lookup x == some .cell && ((cellsFrom 0 scope.names []).lookup x).isSome))) = true)
    (hgk : (gl.all fun p => nmOk p.1 && scope.names.lookup p.1 == some .globalImplicit) = true)
    {ad : List Addr} {s : Shared} {xs : List Value} {R : Result → Shared → Prop} (hr : HR C ad σ s.heap) (rv : RVs ad vs xs)
    (h : ∀ env s1, Kn env scope.names → env.frame = some env.locals → (∀ b o, s.heap.get? b = some o → s1.heap.get? b = some o) → s.heap.objs.size ≤ s1.heap.objs.size → (∃ h1 tk, s1 = { s with heap := h1, toks := tk }) → (∀ a ∈ fa env, s.heap.objs.size ≤ a) →
      HR (C.wg gl) ad σ s1.heap → ER (C.wg gl) env (pn.zip ((vs ++ dv).map some) ++ ln.map fun x => (x, none)) ad s1.heap →
      wpAny (model C.prog C.w) (A.deeper env) (execs body env) (fun f s' => R (.ok (.ret (match f with | .ret v => v | _ => .none))) s') (fun e s' => wpAny (model C.prog C.w) (A.deeper env) (leaving env e) (fun _ s'' => R (.error e) s'') (fun e' s'' => R (.error e') s'') s') s1)
    (hco : scope.isCoroutine = false := by rfl) (hgen : scope.isGenerator = false := by rfl) (hk : scope.kind = .function := by rfl) : codeAny (model C.prog C.w) A (.call (.ref f) ⟨xs, []⟩) R s := by
  have hxl : xs.length = vs.length := rv.length.symm
  refine (codeAny_call_function (body := body) hroom (hr.keep f o ho) hd hco hgen rfl (hcd.keeps hr.keep) (hbind s xs hr.keep hxl _ _ _ _ ?_))
  have hbn : ((pn.zip (xs ++ ds)).map (·.1)) = pn := zip_names (by rw [List.length_append, hxl, hlen, hds.length])
  have rvall : RVs ad (vs ++ dv) (xs ++ ds) := by
    have h0 : RVs ad dv ds := by have := hds.mono (nw := ad); simpa using this
    clear hbind h hlen hxl hbn
    induction rv with
    | nil => exact h0
    | cons a _ ih => exact .cons a ih
  have hpn : pn.Nodup := (List.nodup_append.mp hnd).1
  have hkd0 : ∀ x ∈ pn ++ ln, nmOk x = true ∧ (scope.names.lookup x = some .local ∨ (scope.names.lookup x = some .cell ∧ ((cellsFrom 0 scope.names []).lookup x).isSome = true)) := by
    intro x hx
    have := List.all_eq_true.mp hkd x hx
    simpa using this
  have hkd' := fun x hx => (hkd0 x hx).2
  have hcl : ∀ x n, ((cellsFrom 0 scope.names []).lookup x).isSome = true → ((cellsFrom n scope.names []).lookup x).isSome = true := by
    intro x n hx
    rw [lookup_isSome] at hx ⊢
    rw [cellsFrom_names scope.names n 0 [] [] rfl]; exact hx
  refine wpAny_newFunctionEnv_cells hk (fun y hy => ?_) fun env he s1 x => ?_
  · have : y.1 ∈ pn := by rw [← hbn]; exact List.mem_map.mpr ⟨y, hy, rfl⟩
    rcases hkd' y.1 (List.mem_append_left _ this) with e | ⟨e, e'⟩
    · exact .inl e
    · exact .inr ⟨e, hcl _ _ e'⟩
  obtain rfl : env = dEnv qual scope s.heap.objs.size f cdv := he
  have keep := x.toInCall.keep
  obtain ⟨h1, tk, e1⟩ := x.toInCall.same
  have hr1 : HR (C.wg gl) ad σ s1.heap := (hr.keeps keep).wg hgl
  have hsz : s.heap.objs.size ≤ s1.heap.objs.size := Nat.le_of_lt x.toInCall.ns.lt
  have hcn' : ((cellsFrom (s.heap.objs.size + 1) scope.names []).map (·.1)).Nodup := by
    rw [cellsFrom_names scope.names _ 0 [] [] rfl]; exact hcn
  have hfa : ∀ a ∈ fa (dEnv qual scope s.heap.objs.size f cdv), s.heap.objs.size ≤ a := by
    intro a ha
    rcases List.mem_cons.mp ha with e | ha
    · subst e; exact Nat.le_refl _
    · obtain ⟨⟨n, c⟩, hp, rfl⟩ := List.mem_map.mp ha
      exact Nat.le_of_lt (x.above n c hp)
  have er1 : ER (C.wg gl) (dEnv qual scope s.heap.objs.size f cdv) (pn.zip ((vs ++ dv).map some) ++ ln.map fun x => (x, none)) ad s1.heap := by
    have hzn : (pn.zip ((vs ++ dv).map some)).map (·.1) = pn := zip_names (by rw [List.length_map, List.length_append, hlen])
    refine ⟨hk, rfl, rfl, ?_, ?_, ⟨_, x.toInCall.ns, ?_⟩, ?_, ?_, ?_, ?_, ?_, ?_, ?_⟩
    · rw [List.map_append, hzn, List.map_map]
      have : (ln.map ((fun p : Str × Option V => p.1) ∘ fun x => (x, none))) = ln := List.map_id _
      rw [this]; exact hnd
    · intro y v hy
      have hm : y ∈ pn ++ ln := by
        rcases List.mem_append.mp hy with hy | hy
        · exact List.mem_append_left _ (by rw [← hzn]; exact List.mem_map.mpr ⟨_, hy, rfl⟩)
        · obtain ⟨z, hz, e⟩ := List.mem_map.mp hy; cases e; exact List.mem_append_right _ hz
      rcases hkd' y hm with e | ⟨e, e'⟩
      · exact .inl e
      · exact .inr ⟨.inl e, hcl _ _ e'⟩
    · intro y v hy hyk
      have hy' : (y, some v) ∈ pn.zip ((vs ++ dv).map some) := by
        rcases List.mem_append.mp hy with hy | hy
        · exact hy
        · obtain ⟨z, hz, e⟩ := List.mem_map.mp hy; cases e
      obtain ⟨u, hu, ru⟩ := zip_mem rvall hy'
      exact ⟨u, bindL_mem hyk _ _ (by rw [hbn]; exact hpn) hu, ru⟩
    · intro y c hc
      obtain ⟨oc, hoc, hdc⟩ := x.cell y c hc
      refine ⟨oc, _, hoc, hdc, fun v hv hvk => ?_⟩
      have hy' : (y, some v) ∈ pn.zip ((vs ++ dv).map some) := by
        rcases List.mem_append.mp hv with hy | hy
        · exact hy
        · obtain ⟨z, hz, e⟩ := List.mem_map.mp hy; cases e
      obtain ⟨u, hu, ru⟩ := zip_mem rvall hy'
      exact ⟨u, bindC_mem hvk _ _ (by rw [hbn]; exact hpn) hu, ru⟩
    · intro y z c hy hz
      exact apart_inj x.apart (lookup_mem hy) (lookup_mem hz)
    · intro y c hc e
      have := x.above y c (lookup_mem hc)
      rw [e] at this
      exact Nat.lt_irrefl _ this
    · intro a ha; exact hr.fresh (hfa a ha)
    · intro a ha
      rcases List.mem_cons.mp ha with e | ha
      · subst e; exact x.toInCall.ns.lt
      · obtain ⟨⟨n, c⟩, hp, rfl⟩ := List.mem_map.mp ha
        obtain ⟨oc, hoc, _⟩ := x.cell n c (mem_lookup hcn' hp)
        exact Heap.lt_size hoc
    · intro y v hy
      have hm : y ∈ pn ++ ln := by
        rcases List.mem_append.mp hy with hy | hy
        · exact List.mem_append_left _ (by rw [← hzn]; exact List.mem_map.mpr ⟨_, hy, rfl⟩)
        · obtain ⟨z, hz, e⟩ := List.mem_map.mp hy; cases e; exact List.mem_append_right _ hz
      exact (hkd0 y hm).1
    · intro y v hy
      have := List.all_eq_true.mp hgk (y, v) hy
      simp only [Bool.and_eq_true, beq_iff_eq] at this
      exact ⟨this.2, this.1⟩
  refine ⟨(hr.ok.lim.keeps hr.keep).keeps keep, codeAny_func ?_⟩
  exact h (dEnv qual scope s.heap.objs.size f cdv) s1 (fun _ _ e => e) rfl keep hsz ⟨h1, tk, e1⟩ hfa hr1 er1
theorem WCc_defF {f : Addr} {o : Obj} {name qual : Str} {params : Arguments} {body : List Stmt} {scope : Scope} {dV kV doc pm cdv ct : Value} {an : Option Addr} {pn ln : List Str} {gl : List (Str × Value)} {vs dv : List V} {ds : List Value} {Q : V → AH → Prop}
    (ho : C.G.get? f = some o) (hd : o.data = .func (mkFd name qual params body scope dV kV doc pm an cdv ct)) (hcd : C.G.CodeRec cdv qual) (hroom : A.depth < recursionLimit)
    (hds : RVs [] dv ds) (hlen : pn.length = vs.length + dv.length) (hgl : ∀ x v, (x, v) ∈ gl → C.mg x = some v ∨ (C.mg x = none ∧ C.mb x = some v))
    (hbind : ∀ (s : Shared) (xs : List Value), (∀ b o, C.G.get? b = some o → s.heap.get? b = some o) → xs.length = vs.length → BindsTo s (mkFd name qual params body scope dV kV doc pm an cdv ct) ⟨xs, []⟩ (pn.zip (xs ++ ds)))
    (hnd : (pn ++ ln).Nodup) (hcn : ((cellsFrom 0 scope.names []).map (·.1)).Nodup)
    (hkd : ((pn ++ ln).all fun x => nmOk x && (scope.names.lookup x == some .local || (scope.names.lookup x == some .cell && ((cellsFrom 0 scope.names []).lookup x).isSome))) = true)
    (hgk : (gl.all fun p => nmOk p.1 && scope.names.lookup p.1 == some .globalImplicit) = true)
    (h : ∀ env, Kn env scope.names → env.frame = some env.locals → WSs (C.wg gl) (A.deeper env) env body (pn.zip ((vs ++ dv).map some) ++ ln.map fun x => (x, none)) σ (fun fl _ σ' => Q (retV fl) σ') (EL C A env E))
    (hco : scope.isCoroutine = false := by rfl) (hgen : scope.isGenerator = false := by rfl) (hk : scope.kind = .function := by rfl) : WCc C A (.ref f) vs σ Q E := by
  refine ⟨?_⟩
  intro ad s xs hr rv
  refine def_entry ho hd hcd hroom hds hlen hgl hbind hnd hcn hkd hgk hr rv (fun env s1 hkn hfr keep hsz e1 hfa hr1 er1 => ?_) hco hgen hk
  obtain ⟨h1, tk, e1⟩ := e1
  refine wpAny_mono ((h env hkn hfr).run ad s1 hr1 er1) ?_ fun _ _ z => z
  rintro fl s2 ⟨ad2, σ2, ρ2, f2, n2, e2, r2, h2⟩
  obtain ⟨nw, ep, hnw⟩ := n2.pre
  obtain ⟨h3, tk3, e3⟩ := n2.eq
  have nx : Nx C [] ad s ad2 σ2 s2 := ⟨⟨h3, tk3, by rw [e3, e1]⟩, ⟨nw, ep, fun a ha => Nat.le_trans hsz (hnw a ha)⟩, Nat.le_trans hsz n2.size,
    fun b o e nb _ => n2.same b o (keep b o e) nb fun hb => absurd (Heap.lt_size e) (Nat.not_lt.mpr (hfa b hb)), n2.hr.gw hr.ok⟩
  cases f2 with
  | next => cases r2; exact ⟨ad2, σ2, .none, nx, rfl, h2⟩
  | brk => cases r2; exact ⟨ad2, σ2, .none, nx, rfl, h2⟩
  | cont => cases r2; exact ⟨ad2, σ2, .none, nx, rfl, h2⟩
  | ret v => obtain ⟨u, rfl, ru⟩ := r2; exact ⟨ad2, σ2, v, nx, ru, h2⟩
theorem WCc_def {f : Addr} {o : Obj} {name qual : Str} {params : Arguments} {body : List Stmt} {scope : Scope} {dV kV doc pm cdv ct : Value} {an : Option Addr} {pn ln : List Str} {gl : List (Str × Value)} {vs dv : List V} {ds : List Value} {Q : V → AH → Prop}
    (ho : C.G.get? f = some o) (hd : o.data = .func (mkFd name qual params body scope dV kV doc pm an cdv ct)) (hcd : C.G.CodeRec cdv qual) (hroom : A.depth < recursionLimit)
    (hds : RVs [] dv ds) (hlen : pn.length = vs.length + dv.length) (hgl : ∀ x v, (x, v) ∈ gl → C.mg x = some v ∨ (C.mg x = none ∧ C.mb x = some v))
    (hbind : ∀ (s : Shared) (xs : List Value), (∀ b o, C.G.get? b = some o → s.heap.get? b = some o) → xs.length = vs.length → BindsTo s (mkFd name qual params body scope dV kV doc pm an cdv ct) ⟨xs, []⟩ (pn.zip (xs ++ ds)))
    (hnd : (pn ++ ln).Nodup) (hcn : ((cellsFrom 0 scope.names []).map (·.1)).Nodup)
    (hkd : ((pn ++ ln).all fun x => nmOk x && (scope.names.lookup x == some .local || (scope.names.lookup x == some .cell && ((cellsFrom 0 scope.names []).lookup x).isSome))) = true)
    (hgk : (gl.all fun p => nmOk p.1 && scope.names.lookup p.1 == some .globalImplicit) = true)
    (h : ∀ env, Kn env scope.names → WSs (C.wg gl) (A.deeper env) env body (pn.zip ((vs ++ dv).map some) ++ ln.map fun x => (x, none)) σ (fun fl _ σ' => Q (retV fl) σ') (EL C A env E))
    (hco : scope.isCoroutine = false := by rfl) (hgen : scope.isGenerator = false := by rfl) (hk : scope.kind = .function := by rfl) : WCc C A (.ref f) vs σ Q E :=
  WCc_defF ho hd hcd hroom hds hlen hgl hbind hnd hcn hkd hgk (fun env hkn _ => h env hkn) hco hgen hk
theorem WC_def {f : Addr} {o : Obj} {name qual : Str} {params : Arguments} {body : List Stmt} {scope : Scope} {dV kV doc pm cdv ct : Value} {an : Option Addr} {pn ln : List Str} {gl : List (Str × Value)} {vs dv : List V} {ds : List Value} {Q : V → AH → Prop}
    (ho : C.G.get? f = some o) (hd : o.data = .func (mkFd name qual params body scope dV kV doc pm an cdv ct)) (hcd : C.G.CodeRec cdv qual) (hroom : A.depth < recursionLimit)
    (hds : RVs [] dv ds) (hlen : pn.length = vs.length + dv.length) (hgl : ∀ x v, (x, v) ∈ gl → C.mg x = some v ∨ (C.mg x = none ∧ C.mb x = some v))
    (hbind : ∀ (s : Shared) (xs : List Value), (∀ b o, C.G.get? b = some o → s.heap.get? b = some o) → xs.length = vs.length → BindsTo s (mkFd name qual params body scope dV kV doc pm an cdv ct) ⟨xs, []⟩ (pn.zip (xs ++ ds)))
    (hnd : (pn ++ ln).Nodup) (hcn : ((cellsFrom 0 scope.names []).map (·.1)).Nodup)
    (hkd : ((pn ++ ln).all fun x => nmOk x && (scope.names.lookup x == some .local || (scope.names.lookup x == some .cell && ((cellsFrom 0 scope.names []).lookup x).isSome))) = true)
    (hgk : (gl.all fun p => nmOk p.1 && scope.names.lookup p.1 == some .globalImplicit) = true)
    (h : ∀ env, Kn env scope.names → WSs (C.wg gl) (A.deeper env) env body (pn.zip ((vs ++ dv).map some) ++ ln.map fun x => (x, none)) σ (fun fl _ σ' => Q (retV fl) σ') (EL C A env E))
    (hco : scope.isCoroutine = false := by rfl) (hgen : scope.isGenerator = false := by rfl) (hk : scope.kind = .function := by rfl) : WC C A (.ref f) vs σ Q E :=
  (WCc_def ho hd hcd hroom hds hlen hgl hbind hnd hcn hkd hgk h hco hgen hk).toWC
end
end Mine

-- part Aw4
set_option autoImplicit false
set_option linter.unusedVariables false
namespace Mine
open PySem PyProof.Rows

/-- an iterator at I that hands out P 0 .. P (n - 1), as long as the abstract heap keeps Cd -/
structure Wk (C : Cx) (A : Around) (ad0 : List Addr) (I : Addr) (n : Nat) (P : Nat → V) (Cd : AH → Prop) (St : Nat → Heap → Prop) : Prop where
  own : ∀ i h h', St i h → h'.get? I = h.get? I → St i h'
  ex : ∀ i h, St i h → ∃ o, h.get? I = some o
  item : ∀ i ad σ (s : Shared) (Q : Option Value → Shared → Prop) (E : EX), i < n → (∃ nw, ad = ad0 ++ nw) → HR C ad σ s.heap → Cd σ → St i s.heap →
    (∀ u h' tk, RV ad (P i) u → St (i + 1) h' → Heap.SameBut I s.heap h' → Q (some u) { s with heap := h', toks := tk }) → wpAny (model C.prog C.w) A (pyNext (.ref I)) Q E s
  done : ∀ ad σ (s : Shared) (Q : Option Value → Shared → Prop) (E : EX), (∃ nw, ad = ad0 ++ nw) → HR C ad σ s.heap → Cd σ → St n s.heap →
    (∀ h' tk, (∀ b o, b ≠ I → s.heap.get? b = some o → h'.get? b = some o) → Q none { s with heap := h', toks := tk }) → wpAny (model C.prog C.w) A (pyNext (.ref I)) Q E s
  self : ∀ i (s : Shared) (Q : Value → Shared → Prop) (E : EX), St i s.heap → Q (.ref I) s → wpAny (model C.prog C.w) A (pyIter (.ref I)) Q E s
  tup : ∀ i (s : Shared) (t : Expr) (u : Value) (Q : Unit → Shared → Prop) (E : EX), St i s.heap → Q () s → wpAny (model C.prog C.w) A (letOwnedTupleGo t (.ref I) u) Q E s

/-- a value that may be walked -/
structure Itb (C : Cx) (A : Around) (v : V) (σ : AH) (n : Nat) (P : Nat → V) (Cd : AH → Prop) (E : EX) : Prop where
  run : ∀ ad (s : Shared) x, HR C ad σ s.heap → RV ad v x → wpAny (model C.prog C.w) A (pyIter x)
    (fun it s1 => Ex2 fun I St => And5 (it = .ref I) (Wk C A ad I n P Cd St) (St 0 s1.heap) (s.heap.objs.size ≤ I) (Nx C [] ad s ad σ s1)) E s

structure LoopPost (Inv : Loc → AH → Prop) (Q : Fl → Loc → AH → Prop) (fl : Fl) (ρ : Loc) (σ : AH) : Prop where
  run : match fl with
    | .next => Inv ρ σ
    | .cont => Inv ρ σ
    | .brk => Q .next ρ σ
    | .ret v => Q (.ret v) ρ σ
theorem LoopPost_next {Inv : Loc → AH → Prop} {Q : Fl → Loc → AH → Prop} {ρ : Loc} {σ : AH} (h : Inv ρ σ) : LoopPost Inv Q .next ρ σ := ⟨h⟩
theorem LoopPost_cont {Inv : Loc → AH → Prop} {Q : Fl → Loc → AH → Prop} {ρ : Loc} {σ : AH} (h : Inv ρ σ) : LoopPost Inv Q .cont ρ σ := ⟨h⟩
theorem LoopPost_brk {Inv : Loc → AH → Prop} {Q : Fl → Loc → AH → Prop} {ρ : Loc} {σ : AH} (h : Q .next ρ σ) : LoopPost Inv Q .brk ρ σ := ⟨h⟩
/-- a raise within a loop -/
noncomputable def ELoop (C : Cx) (A : Around) (env : Env) (E : EX) : EX := notedBy (model C.prog C.w) A env fun e s' => cameBackBy (model C.prog C.w) A env E e s'

/-- storing a value to a target -/
structure WAs (C : Cx) (A : Around) (env : Env) (t : Expr) (v : V) (ρ : Loc) (σ : AH) (Q : Loc → AH → Prop) (E : EX) : Prop where
  run : ∀ ad (s : Shared) u, HR C ad σ s.heap → ER C env ρ ad s.heap → RV ad v u →
    wpAny (model C.prog C.w) A (assign t env u) (fun _ s' => Ex3 fun ad' σ' ρ' => And3 (Nx C (fa env) ad s ad' σ' s') (ER C env ρ' ad' s'.heap) (Q ρ' σ')) E s

section
variable {C : Cx} {A : Around} {env : Env} {ρ : Loc} {σ : AH} {E : EX}
theorem WAs_name {x : Str} {p : Pos} {v : V} {Q : Loc → AH → Prop} {ρ' : Loc} (up : Up x (some v) ρ ρ') (h : Q ρ' σ) : WAs C A env (.Name x p) v ρ σ Q E := by
  refine ⟨?_⟩
  intro ad s u hr er rv
  exact wpAny_assign_Name (store_name hr er up rv fun s' n e => ⟨ad, σ, ρ', n, e, h⟩)

theorem HR.same {ad : List Addr} {h h' : Heap} (hr : HR C ad σ h) (k : ∀ b o, C.G.get? b = some o ∨ b ∈ ad → h.get? b = some o → h'.get? b = some o) : HR C ad σ h' :=
  ⟨hr.ok, fun b o e => k b o (.inl e) (hr.keep b o e), hr.len, hr.nd, hr.off, hr.low, fun i o a h1 h2 => let ⟨ob, h3, h4⟩ := hr.obj i o a h1 h2; ⟨ob, k _ _ (.inr (List.mem_of_getElem? h2)) h3, h4⟩⟩

/-- a step that changes but the iterator and grows -/
theorem Nx.iter {ad : List Addr} {s : Shared} {h' : Heap} {tk : Nat} {I : Addr} (hr : HR C ad σ s.heap) (hI : I ∉ ad) (hG : C.G.get? I = none) (hz : s.heap.objs.size ≤ h'.objs.size) (k : ∀ b o, b ≠ I → s.heap.get? b = some o → h'.get? b = some o) :
    Nx C [I] ad s ad σ { s with heap := h', toks := tk } := by
  have ne : ∀ b o, C.G.get? b = some o ∨ b ∈ ad → b ≠ I := by
    rintro b o (e | e) rfl
    · rw [hG] at e; cases e
    · exact hI e
  exact ⟨⟨h', tk, rfl⟩, ⟨[], by simp, by simp⟩, hz, fun b o e _ hc => k b o (by simpa using hc) e, hr.same fun b o h1 h2 => k b o (ne b o h1) h2⟩
theorem ER.iter {ad : List Addr} {s : Shared} {s' : Shared} {I : Addr} (er : ER C env ρ ad s.heap) (n : Nx C [I] ad s ad σ s') (hI : I ∉ fa env) : ER C env ρ ad s'.heap := by
  have keep : ∀ b ∈ fa env, ∀ o, s.heap.get? b = some o → s'.heap.get? b = some o := fun b hb o e => n.same b o e (er.off b hb).2 (by simp; rintro rfl; exact hI hb)
  refine ⟨er.kind, er.glob, er.blt, er.nd, er.kd, ?_, ?_, er.cinj, er.cl, er.off, fun b hb => Nat.lt_of_lt_of_le (er.lt b hb) n.size, er.nm, er.gk⟩
  · obtain ⟨m, hm, h⟩ := er.m
    exact ⟨m, hm.at' fun o e => keep _ (by simp [fa]) o e, h⟩
  · intro x c hc
    obtain ⟨o, w, h1, h2, h3⟩ := er.cell x c hc
    exact ⟨o, w, keep c (mem_cells hc) o h1, h2, h3⟩
theorem Nx.wider {ch ch' ad ad1 : List Addr} {σ1 : AH} {s s1 : Shared} (n : Nx C ch ad s ad1 σ1 s1) (h : ∀ b ∈ ch, b ∈ ch') : Nx C ch' ad s ad1 σ1 s1 :=
  ⟨n.eq, n.pre, n.size, fun b o e hb hc => n.same b o e hb fun hx => hc (h b hx), n.hr⟩

/-- an expression's value, made an iterator -/
structure WItr (C : Cx) (A : Around) (env : Env) (iter : Expr) (ρ : Loc) (σ : AH) (K : Nat → (Nat → V) → (AH → Prop) → AH → Prop) (E : EX) : Prop where
  run : ∀ ad (s : Shared), HR C ad σ s.heap → ER C env ρ ad s.heap → wpAny (model C.prog C.w) A (eval iter env) (fun x s1 => wpAny (model C.prog C.w) A (pyIter x) (fun it s2 => Ex7 fun ad' σ' n P Cd I St => And7 (it = .ref I) (Wk C A ad' I n P Cd St) (St 0 s2.heap) (s.heap.objs.size ≤ I) (I ∉ ad') (Nx C [] ad s ad' σ' s2) (K n P Cd σ')) E s1) E s
theorem WItr_of {iter : Expr} {K : Nat → (Nat → V) → (AH → Prop) → AH → Prop} (h : WE C A env iter ρ σ (fun v σ1 => Ex3 fun n P Cd => (Itb C A v σ1 n P Cd E) ∧ (K n P Cd σ1)) E) : WItr C A env iter ρ σ K E := by
  refine ⟨?_⟩
  intro ad s hr er
  refine wpAny_mono (h.run ad s hr er) ?_ fun _ _ x => x
  rintro x s1 ⟨ad1, σ1, v, n1, r1, n, P, Cd, itb, hk⟩
  refine wpAny_mono (itb.run ad1 s1 x n1.hr r1) ?_ fun _ _ x => x
  rintro it s2 ⟨I, St, rfl, wk, st0, hI, n2⟩
  exact ⟨ad1, σ1, n, P, Cd, I, St, rfl, wk, st0, Nat.le_trans n1.size hI, (n1.hr.fresh hI).2, n1.trans n2, hk⟩
theorem Nx.drop1 {ch ad ad1 : List Addr} {σ1 : AH} {s0 s s1 : Shared} {I : Addr} {ad0 : List Addr} {σ0 : AH} (n0 : Nx C [] ad0 s0 ad σ0 s) (hI : s0.heap.objs.size ≤ I) (n : Nx C (I :: ch) ad s ad1 σ1 s1) : Nx C ch ad0 s0 ad1 σ1 s1 := by
  obtain ⟨h1, t1, e1⟩ := n0.eq
  obtain ⟨h2, t2, e2⟩ := n.eq
  obtain ⟨nw0, p0, q0⟩ := n0.pre
  obtain ⟨nw, p, q⟩ := n.pre
  refine ⟨⟨h2, t2, by rw [e2, e1]⟩, ⟨nw0 ++ nw, by rw [p, p0, List.append_assoc], fun a ha => ?_⟩, Nat.le_trans n0.size n.size, fun b o e hb hc => ?_, n.hr⟩
  · rcases List.mem_append.mp ha with ha | ha
    · exact q0 a ha
    · exact Nat.le_trans n0.size (q a ha)
  · refine n.same b o (n0.same b o e hb (by simp)) ?_ ?_
    · rw [p0]
      intro hm
      rcases List.mem_append.mp hm with hm | hm
      · exact hb hm
      · exact absurd (Heap.lt_size e) (Nat.not_lt.mpr (q0 b hm))
    · simp only [List.mem_cons, not_or]
      exact ⟨fun e' => absurd (Heap.lt_size e) (Nat.not_lt.mpr (e' ▸ hI)), hc⟩

theorem WS_for {target iter : Expr} {body : List Stmt} {pos : Pos} {Q : Fl → Loc → AH → Prop}
    (h : WItr C A env iter ρ σ (fun n P Cd σ1 => ∃ Inv : Nat → Loc → AH → Prop, Inv 0 ρ σ1 ∧
      (∀ i ρ' σ', i < n → Inv i ρ' σ' → Cd σ' ∧ WAs C A env target (P i) ρ' σ' (fun ρ2 σ2 => WSs C A env body ρ2 σ2 (LoopPost (Inv (i + 1)) Q) (ELoop C A env E)) (ELoop C A env E)) ∧
      (∀ ρ' σ', Inv n ρ' σ' → Cd σ' ∧ Q .next ρ' σ')) E)
    (hs : isSetE iter = false := by rfl) : WS C A env (.For target iter body [] pos) ρ σ Q E := by
  refine ⟨?_⟩
  intro ad s hr er
  refine wpAny_For (wpAny_mono (h.run ad s hr er) ?_ fun _ _ x => x) (folded_not hs)
  intro x s1 hx
  refine wpAny_mono hx ?_ fun _ _ x => x
  rintro it s2 ⟨ad1, σ1, n, P, Cd, I, St, rfl, wk, st0, hI, hIad, n2, Inv, inv0, turn, fin⟩
  have er2 := er.next n2
  have hIfa : I ∉ fa env := fun hm => absurd (er.lt I hm) (Nat.not_lt.mpr hI)
  have hIG : C.G.get? I = none := (hr.fresh hI).1
  refine codeAny_forLoop_any (fun k s3 => Ex4 fun i ad3 σ3 ρ3 => And7 (k = n - i) (i ≤ n) (Nx C (I :: fa env) ad1 s2 ad3 σ3 s3) (ER C env ρ3 ad3 s3.heap) (St i s3.heap) (I ∉ ad3) (Inv i ρ3 σ3)) ?_ n
    ⟨0, ad1, σ1, ρ, rfl, Nat.zero_le _, Nx.refl n2.hr, er2, st0, hIad, inv0⟩
  rintro k s3 ⟨i, ad3, σ3, ρ3, rfl, hi, n3, er3, st3, hI3, inv3⟩
  by_cases hlt : i < n
  · obtain ⟨cd, tb⟩ := turn i ρ3 σ3 hlt inv3
    refine wk.item i ad3 σ3 s3 _ _ hlt (let ⟨nw, p, _⟩ := n3.pre; ⟨nw, p⟩) n3.hr cd st3 fun u h' tk ru st' hsb => ?_
    have n4 : Nx C [I] ad3 s3 ad3 σ3 { s3 with heap := h', toks := tk } := Nx.iter n3.hr hI3 hIG (Nat.le_of_eq hsb.1.symm) hsb.extBut
    have er4 := er3.iter n4 hIfa
    refine wk.tup (i + 1) _ _ _ _ _ st' ?_
    refine wpAny_mono (tb.run ad3 _ u n4.hr er4 ru) ?_ fun _ _ x => x
    rintro _ s5 ⟨ad5, σ5, ρ5, n5, er5, wb⟩
    refine wpAny_mono (wb.run ad5 s5 n5.hr er5) ?_ fun _ _ x => x
    rintro f s6 ⟨ad6, σ6, ρ6, fl, n6, er6, rf, ⟨hq⟩⟩
    have n56 := n5.trans n6
    have n46 : Nx C (I :: fa env) ad3 s3 ad6 σ6 s6 := (n4.wider (by simp)).trans (n56.wider fun b hb => List.mem_cons_of_mem _ hb)
    have n36 := n3.trans n46
    obtain ⟨oI, hoI⟩ := wk.ex _ _ st'
    have hI6 : I ∉ ad6 := by
      obtain ⟨nw, p, q⟩ := n56.pre
      rw [p]
      intro hm
      rcases List.mem_append.mp hm with hm | hm
      · exact hI3 hm
      · exact absurd (Heap.lt_size hoI) (Nat.not_lt.mpr (q I hm))
    have st6 : St (i + 1) s6.heap := wk.own _ _ _ st' ((n56.same I oI hoI hI3 hIfa).trans hoI.symm)
    have back : Nx C (fa env) ad s ad6 σ6 s6 := Nx.drop1 n2 hI n36
    cases fl with
    | next => cases rf; exact ⟨n - (i + 1), by lia, i + 1, ad6, σ6, ρ6, rfl, hlt, n36, er6, st6, hI6, hq⟩
    | cont => cases rf; exact ⟨n - (i + 1), by lia, i + 1, ad6, σ6, ρ6, rfl, hlt, n36, er6, st6, hI6, hq⟩
    | brk => cases rf; exact ⟨ad6, σ6, ρ6, .next, back, er6, rfl, hq⟩
    | ret v => obtain ⟨u', rfl, ru'⟩ := rf; exact ⟨ad6, σ6, ρ6, .ret v, back, er6, ⟨u', rfl, ru'⟩, hq⟩
  · obtain rfl : i = n := by lia
    obtain ⟨cd, hq⟩ := fin ρ3 σ3 inv3
    refine wpAny_sz (wk.done ad3 σ3 s3 _ _ (let ⟨nw, p, _⟩ := n3.pre; ⟨nw, p⟩) n3.hr cd st3 fun h' tk hk hz => ?_)
    have n4 : Nx C [I] ad3 s3 ad3 σ3 { s3 with heap := h', toks := tk } := Nx.iter n3.hr hI3 hIG hz hk
    have er4 := er3.iter n4 hIfa
    exact wpAny_execs_nil ⟨ad3, σ3, ρ3, .next, Nx.drop1 n2 hI (n3.trans (n4.wider (by simp))), er4, rfl, hq⟩
end
end Mine

-- part Aw5
set_option autoImplicit false
set_option linter.unusedVariables false
namespace Mine
open PySem PyProof.Rows

noncomputable def ObjAt (C : Cx) (σ : AH) (v : V) (o : O) : Prop := match v with
  | .ref j => σ[j]? = some o
  | .k (.ref a) => (a, o) ∈ C.gob
  | _ => False

section
variable {C : Cx} {A : Around} {env : Env} {ρ : Loc} {σ : AH} {E : EX}
theorem ObjAt.list {v : V} {xs : List V} {ad : List Addr} {h : Heap} {x : Value} (b : ObjAt C σ v (.list xs)) (hr : HR C ad σ h) (rv : RV ad v x) : ∃ a vs, x = .ref a ∧ h.IsList a vs ∧ RVs ad xs vs.toList := by
  cases v with
  | ref j =>
    obtain ⟨a, h1, h2⟩ := rv
    obtain ⟨ob, h3, vs, n, e2, h4⟩ := hr.obj j _ a b h1
    subst e2
    exact ⟨a, vs, h2, ⟨_, h3, rfl, n, rfl⟩, h4⟩
  | k v =>
    cases v with
    | ref a =>
      obtain ⟨vs, h1, h2⟩ := (hr.ok.gob a _ b).keeps hr.keep
      have h3 := h2.mono (nw := ad)
      exact ⟨a, vs, rv, h1, by simpa using h3⟩
    | _ => exact b.elim
  | _ => exact b.elim
theorem ObjAt.tup {v : V} {xs : List V} {ad : List Addr} {h : Heap} {x : Value} (b : ObjAt C σ v (.tuple xs)) (hr : HR C ad σ h) (rv : RV ad v x) : ∃ a vs, x = .ref a ∧ h.IsTuple a vs ∧ RVs ad xs vs.toList := by
  cases v with
  | ref j =>
    obtain ⟨a, h1, h2⟩ := rv
    obtain ⟨ob, h3, vs, n, e2, h4⟩ := hr.obj j _ a b h1
    subst e2
    exact ⟨a, vs, h2, ⟨_, h3, rfl, n, rfl⟩, h4⟩
  | k v =>
    cases v with
    | ref a =>
      obtain ⟨vs, h1, h2⟩ := (hr.ok.gob a _ b).keeps hr.keep
      have h3 := h2.mono (nw := ad)
      exact ⟨a, vs, rv, h1, by simpa using h3⟩
    | _ => exact b.elim
  | _ => exact b.elim

/-- a new object that the abstract heap does not bear -/
theorem Nx.push {ad : List Addr} {s : Shared} (o : Obj) (hr : HR C ad σ s.heap) : Nx C [] ad s ad σ { s with heap := s.heap.push o } :=
  ⟨⟨_, s.toks, rfl⟩, ⟨[], by simp, by simp⟩, by simp [Heap.push], fun b ob e _ _ => Heap.get?_push_of_some _ e, hr.keeps fun b ob e => Heap.get?_push_of_some _ e⟩
theorem RVs.getD {ad : List Addr} {xs : List V} {vs : List Value} (h : RVs ad xs vs) {i : Nat} (hi : i < xs.length) : ∃ u, vs[i]? = some u ∧ RV ad (xs.getD i .none) u := by
  obtain ⟨u, h1, h2⟩ := h.get (i := i) (a := xs[i]) (by simp [hi])
  exact ⟨u, h1, by simpa [List.getD, hi] using h2⟩

theorem notOwned {s : Shared} {t : Expr} {I : Addr} {u : Value} {o : Obj} {M : Model} {Q : Unit → Shared → Prop} (ho : s.heap.get? I = some o) (hc : (match o.cls, o.data with
    | .type n, .fields vs => !(["enumerate", "zip", "dict_itemiterator", "dict_reverseitemiterator", "odict_iterator", "itertools.zip_longest", "itertools.pairwise"].contains n)
    | _, _ => true) = true) (h : Q () s) : wpAny M A (letOwnedTupleGo t (.ref I) u) Q E s := by
  unfold letOwnedTupleGo
  split
  · cases u <;> try exact wpAny_pure h
    refine wpAny_bind (wpAny_load ho ?_)
    split
    · rename_i n vs e1 e2
      rw [e1, e2] at hc
      simp only [Bool.not_eq_true'] at hc
      rw [hc]; exact wpAny_pure h
    · exact wpAny_pure h
  · cases u <;> try exact wpAny_pure h
    refine wpAny_bind (wpAny_load ho ?_)
    split
    · rename_i n vs e1 e2
      rw [e1, e2] at hc
      simp only [Bool.not_eq_true'] at hc
      rw [hc]; exact wpAny_pure h
    · exact wpAny_pure h
  · exact wpAny_pure h

theorem Itb_list {v : V} {xs : List V} (hA : A.handled = none) (b : ObjAt C σ v (.list xs)) : Itb C A v σ xs.length (fun i => xs.getD i .none) (fun σ' => ObjAt C σ' v (.list xs)) E := by
  refine ⟨?_⟩
  intro ad s x hr rv
  obtain ⟨a, vs, rfl, hl, rvs⟩ := b.list hr rv
  refine wpAny_pyIter_list hl ⟨s.heap.objs.size, fun i h => h.IsListIter s.heap.objs.size a i, rfl, ?_, ?_, Nat.le_refl _, Nx.push _ hr⟩
  · refine ⟨?_, ?_, ?_, ?_, fun i s Q E st hQ => wpAny_pyIter_listiter st hQ, ?_⟩
    · rintro i h h' ⟨o, ho, r⟩ e
      exact ⟨o, by rw [e]; exact ho, r⟩
    · rintro i h ⟨o, ho, r⟩; exact ⟨o, ho⟩
    · rintro i ad' σ' s' Q E' hi ⟨nw, rfl⟩ hr' b' st hQ
      obtain ⟨a', vs', e, hl', rvs'⟩ := b'.list hr' (rv.mono (nw := nw))
      cases e
      obtain ⟨u, hu, ru⟩ := rvs'.getD hi
      exact wpAny_pyNext_list_item st hl' (x := u) (by rw [← Array.getElem?_toList]; exact hu) fun h' hit hs => hQ u h' s'.toks ru hit hs
    · rintro ad' σ' s' Q E' ⟨nw, rfl⟩ hr' b' st hQ
      obtain ⟨a', vs', e, hl', rvs'⟩ := b'.list hr' (rv.mono (nw := nw))
      cases e
      refine wpAny_pyNext_list_end hA st hl' ?_ fun h' he => ?_
      · rw [← Array.getElem?_toList]; exact List.getElem?_eq_none (by rw [← rvs'.length]; exact Nat.le_refl _)
      · exact hQ h' s'.toks fun b o hb e => he b o hb e
    · rintro i s' t u Q E' ⟨o, ho, hc, hd⟩ hq
      exact notOwned ho (by rw [hc, hd]; rfl) hq
  · exact ⟨_, Heap.get?_push_size _ rfl, rfl, rfl⟩
end
end Mine

-- part Aw6
set_option autoImplicit false
set_option linter.unusedVariables false
namespace Mine
open PySem PyProof.Rows

section
variable {C : Cx} {A : Around} {env : Env} {ρ : Loc} {σ : AH} {E : EX} {Q : V → AH → Prop}

theorem PE.here {ad : List Addr} {s : Shared} {v : V} {u : Value} (hr : HR C ad σ s.heap) (rv : RV ad v u) (h : Q v σ) : PE C ad s Q u s := ⟨ad, σ, v, Nx.refl hr, rv, h⟩
theorem PE.tok {ad : List Addr} {s : Shared} {v : V} {u : Value} (t : Nat) (hr : HR C ad σ s.heap) (rv : RV ad v u) (h : Q v σ) : PE C ad s Q u { s with toks := t } := ⟨ad, σ, v, Nx.tok t hr, rv, h⟩
theorem Nx.keeps {ad : List Addr} {s : Shared} {h' : Heap} {tk : Nat} (hz : s.heap.objs.size ≤ h'.objs.size) (hr : HR C ad σ s.heap) (k : ∀ b o, s.heap.get? b = some o → h'.get? b = some o) : Nx C [] ad s ad σ { s with heap := h', toks := tk } :=
  ⟨⟨h', tk, rfl⟩, ⟨[], by simp, by simp⟩, hz, fun b o e _ _ => k b o e, hr.keeps k⟩

/- ints -/
theorem add_ii {i j : Int} (h : Q (.int (i + j)) σ) : WOp2 C A (binaryOp .Add) (.int i) (.int j) σ Q E := by
  refine ⟨?_⟩
  rintro ad s x y hr ⟨t, rfl⟩ ⟨u, rfl⟩
  exact wpAny_add_int (PE.tok (v := .int (i + j)) _ hr ⟨_, rfl⟩ h)
theorem sub_ii {i j : Int} (h : Q (.int (i - j)) σ) : WOp2 C A (binaryOp .Sub) (.int i) (.int j) σ Q E := by
  refine ⟨?_⟩
  rintro ad s x y hr ⟨t, rfl⟩ ⟨u, rfl⟩
  exact sub_int' (PE.tok (v := .int (i - j)) _ hr ⟨_, rfl⟩ h)
theorem mul_ii {i j : Int} (hm : IntMulOk i j) (h : Q (.int (i * j)) σ) : WOp2 C A (binaryOp .Mult) (.int i) (.int j) σ Q E := by
  refine ⟨?_⟩
  rintro ad s x y hr ⟨t, rfl⟩ ⟨u, rfl⟩
  exact mul_int (PE.tok (v := .int (i * j)) _ hr ⟨_, rfl⟩ h) hm
theorem mod_ii {i j : Int} (hj : j ≠ 0) (h : Q (.int (i.fmod j)) σ) : WOp2 C A (binaryOp .Mod) (.int i) (.int j) σ Q E := by
  refine ⟨?_⟩
  rintro ad s x y hr ⟨t, rfl⟩ ⟨u, rfl⟩
  refine mod_int' hj ?_
  exact (PE.tok (v := .int (i.fmod j)) _ hr ⟨_, rfl⟩ h)
theorem neg_i {i : Int} (h : Q (.int (-i)) σ) : WOp1 C A (unaryOp .USub) (.int i) σ Q E := by
  refine ⟨?_⟩
  rintro ad s x hr ⟨t, rfl⟩
  exact neg_int (PE.tok (v := .int (-i)) _ hr ⟨_, rfl⟩ h)
theorem lt_ii {i j : Int} (h : Q (.bool (decide (i < j))) σ) : WOp2 C A (compareOp .Lt) (.int i) (.int j) σ Q E := by
  refine ⟨?_⟩
  rintro ad s x y hr ⟨t, rfl⟩ ⟨u, rfl⟩
  exact lt_int (PE.here (v := .bool _) hr rfl h)
theorem gt_ii {i j : Int} (h : Q (.bool (decide (j < i))) σ) : WOp2 C A (compareOp .Gt) (.int i) (.int j) σ Q E := by
  refine ⟨?_⟩
  rintro ad s x y hr ⟨t, rfl⟩ ⟨u, rfl⟩
  exact gt_int (PE.here (v := .bool _) hr rfl h)
theorem le_ii {i j : Int} (h : Q (.bool (decide (i ≤ j))) σ) : WOp2 C A (compareOp .LtE) (.int i) (.int j) σ Q E := by
  refine ⟨?_⟩
  rintro ad s x y hr ⟨t, rfl⟩ ⟨u, rfl⟩
  exact le_int (PE.here (v := .bool _) hr rfl h)
theorem ge_ii {i j : Int} (h : Q (.bool (decide (j ≤ i))) σ) : WOp2 C A (compareOp .GtE) (.int i) (.int j) σ Q E := by
  refine ⟨?_⟩
  rintro ad s x y hr ⟨t, rfl⟩ ⟨u, rfl⟩
  exact ge_int (PE.here (v := .bool _) hr rfl h)
theorem eq_ii {i j : Int} (h : Q (.bool (i == j)) σ) : WOp2 C A (compareOp .Eq) (.int i) (.int j) σ Q E := by
  refine ⟨?_⟩
  rintro ad s x y hr ⟨t, rfl⟩ ⟨u, rfl⟩
  exact eq_int (PE.here (v := .bool _) hr rfl h)
theorem ne_ii {i j : Int} (h : Q (.bool (i != j)) σ) : WOp2 C A (compareOp .NotEq) (.int i) (.int j) σ Q E := by
  refine ⟨?_⟩
  rintro ad s x y hr ⟨t, rfl⟩ ⟨u, rfl⟩
  exact ne_int (PE.here (v := .bool _) hr rfl h)
/- deep data -/
mutual
inductive Rd (C : Cx) (σ : AH) : V → PyData → Prop
  | none : Rd C σ .none .none
  | bool {b : Bool} : Rd C σ (.bool b) (.bool b)
  | int {i : Int} : Rd C σ (.int i) (.int i)
  | str {s : Str} : Rd C σ (.str s) (.str s)
  | list {v : V} {xs : List V} {ds : List PyData} : ObjAt C σ v (.list xs) → RdAll C σ xs ds → Rd C σ v (.list ds)
  | tuple {v : V} {xs : List V} {ds : List PyData} : ObjAt C σ v (.tuple xs) → RdAll C σ xs ds → Rd C σ v (.tuple ds)
inductive RdAll (C : Cx) (σ : AH) : List V → List PyData → Prop
  | nil : RdAll C σ [] []
  | cons {v : V} {d : PyData} {vs : List V} {ds : List PyData} : Rd C σ v d → RdAll C σ vs ds → RdAll C σ (v :: vs) (d :: ds)
end
mutual
theorem Rd.reads {ad : List Addr} {h : Heap} (hr : HR C ad σ h) : ∀ {v : V} {d : PyData}, Rd C σ v d → ∀ {x : Value}, RV ad v x → ∃ as, Reads h x d as
  | _, _, .none, _, rfl => ⟨_, .none⟩
  | _, _, .bool, _, rfl => ⟨_, .bool _⟩
  | _, _, .int, _, ⟨_, e⟩ => by subst e; exact ⟨_, .int _ _⟩
  | _, _, .str, _, ⟨_, e⟩ => by subst e; exact ⟨_, .str _ _⟩
  | _, _, .list b r, x, rv => by
    obtain ⟨a, vs, e, ⟨o, ho, hc, n, hd⟩, rvs⟩ := b.list hr rv
    obtain ⟨as, ra⟩ := RdAll.reads hr r rvs
    subst e
    exact ⟨_, .list ho hc hd ra⟩
  | _, _, .tuple b r, x, rv => by
    obtain ⟨a, vs, e, ⟨o, ho, hc, n, hd⟩, rvs⟩ := b.tup hr rv
    obtain ⟨as, ra⟩ := RdAll.reads hr r rvs
    subst e
    exact ⟨_, .tuple ho hc hd ra⟩
theorem RdAll.reads {ad : List Addr} {h : Heap} (hr : HR C ad σ h) : ∀ {vs : List V} {ds : List PyData}, RdAll C σ vs ds → ∀ {xs : List Value}, RVs ad vs xs → ∃ as, ReadsAll h xs ds as
  | _, _, .nil, _, .nil => ⟨_, .nil⟩
  | _, _, .cons r rs, _, .cons v vs => by
    obtain ⟨as, ra⟩ := Rd.reads hr r v
    obtain ⟨bs, rb⟩ := RdAll.reads hr rs vs
    exact ⟨_, .cons ra rb⟩
end
theorem eq_dd {a b : V} {da db : PyData} (ra : Rd C σ a da) (rb : Rd C σ b db) (ha : SeqAt.shaped da = true) (hb : SeqAt.shaped db = true) (hu : A.units + 64 < cLine) (h : Q (.bool (PyData.eqv da db)) σ) : WOp2 C A (compareOp .Eq) a b σ Q E := by
  refine ⟨?_⟩
  intro ad s x y hr rx ry
  obtain ⟨as, r1⟩ := ra.reads hr rx
  obtain ⟨bs, r2⟩ := rb.reads hr ry
  exact eq_dataH r1 r2 ha hb hu (PE.here (v := .bool _) hr rfl h)
theorem ne_dd {a b : V} {da db : PyData} (ra : Rd C σ a da) (rb : Rd C σ b db) (ha : SeqAt.shaped da = true) (hb : SeqAt.shaped db = true) (hu : A.units + 64 < cLine) (h : Q (.bool (!PyData.eqv da db)) σ) : WOp2 C A (compareOp .NotEq) a b σ Q E := by
  refine ⟨?_⟩
  intro ad s x y hr rx ry
  obtain ⟨as, r1⟩ := ra.reads hr rx
  obtain ⟨bs, r2⟩ := rb.reads hr ry
  exact ne_dataH r1 r2 ha hb hu (PE.here (v := .bool _) hr rfl h)

/- new objects -/
theorem HR.alloc {ad : List Addr} {h : Heap} {o : O} {ob : Obj} (hr : HR C ad σ h) (ro : RO C.w.params ad o ob) : HR C (ad ++ [h.objs.size]) (σ ++ [o]) (h.push ob) := by
  have hf := ro.notFreed
  obtain ⟨hG, hn⟩ := hr.fresh (Nat.le_refl _)
  refine ⟨hr.ok, fun b x e => Heap.get?_push_of_some _ (hr.keep b x e), by simp [hr.len], ?_, ?_, fun a ha => (List.mem_append.mp ha).elim (hr.low a) (fun hm => by rw [List.mem_singleton.mp hm]; exact hr.freshLow (Nat.le_refl _)), ?_⟩
  · refine List.nodup_append.mpr ⟨hr.nd, by simp, ?_⟩
    intro a ha b hb e
    simp only [List.mem_singleton] at hb
    subst hb; subst e; exact hn ha
  · intro a ha
    rcases List.mem_append.mp ha with ha | ha
    · exact hr.off a ha
    · simp only [List.mem_singleton] at ha; subst ha; exact hG
  · intro i x a h1 h2
    by_cases hi : i < σ.length
    · rw [List.getElem?_append_left hi] at h1
      rw [List.getElem?_append_left (by rw [hr.len]; exact hi)] at h2
      obtain ⟨ob', h3, h4⟩ := hr.obj i x a h1 h2
      exact ⟨ob', Heap.get?_push_of_some _ h3, h4.mono⟩
    · have hi' : i = σ.length := by
        have := (List.getElem?_eq_some_iff.mp h1).1
        simp at this; lia
      subst hi'
      rw [List.getElem?_append_right (Nat.le_refl _)] at h1
      rw [List.getElem?_append_right (by rw [hr.len]; exact Nat.le_refl _)] at h2
      simp [hr.len] at h1 h2
      subst h1; subst h2
      exact ⟨ob, Heap.get?_push_size _ hf, ro.mono⟩
theorem Nx.alloc {ad : List Addr} {s : Shared} {o : O} {ob : Obj} (hr : HR C ad σ s.heap) (ro : RO C.w.params ad o ob) : Nx C [] ad s (ad ++ [s.heap.objs.size]) (σ ++ [o]) { s with heap := s.heap.push ob } :=
  ⟨⟨_, s.toks, rfl⟩, ⟨[s.heap.objs.size], rfl, by simp⟩, by simp [Heap.push], fun b x e _ _ => Heap.get?_push_of_some _ e, hr.alloc ro⟩
theorem RV.last {ad : List Addr} {a : Addr} : ∀ {n : Nat}, n = ad.length → RV (ad ++ [a]) (.ref n) (.ref a) := by rintro n rfl; exact ⟨a, by simp, rfl⟩

theorem WE_List {es : List Expr} {pos : Pos} (h : WL C A env es ρ σ (fun vs σ1 => vs.length ≤ sizeLine ∧ Q (.ref σ1.length) (σ1 ++ [.list vs])) E) : WE C A env (.List es pos) ρ σ Q E := by
  refine ⟨?_⟩
  intro ad s hr er
  refine List_ (wpAny_mono (h.run ad s pos hr er) ?_ fun _ _ x => x)
  rintro us s1 ⟨ad1, σ1, vs, n1, r1, hz, h1⟩
  refine wpAny_newObj_type ?_ (by show us.toArray.size ≤ sizeLine; rw [List.size_toArray, ← r1.length]; exact hz)
  exact PE.trans n1 ⟨_, _, .ref σ1.length, Nx.alloc n1.hr (o := .list vs) ⟨_, _, rfl, by simpa using r1⟩, RV.last n1.hr.len.symm, h1⟩
theorem WE_Tuple {es : List Expr} {k : Nat} {pos : Pos} (h : WL C A env es ρ σ (fun vs σ1 => vs.length ≤ sizeLine ∧ Q (.ref σ1.length) (σ1 ++ [.tuple vs])) E) : WE C A env (.Tuple es k pos) ρ σ Q E := by
  refine ⟨?_⟩
  intro ad s hr er
  refine Tuple_ (wpAny_mono (h.run ad s pos hr er) ?_ fun _ _ x => x)
  rintro us s1 ⟨ad1, σ1, vs, n1, r1, hz, h1⟩
  refine wpAny_newObj_type ?_ (by show us.toArray.size ≤ sizeLine; rw [List.size_toArray, ← r1.length]; exact hz)
  exact PE.trans n1 ⟨_, _, .ref σ1.length, Nx.alloc n1.hr (o := .tuple vs) ⟨_, _, rfl, by simpa using r1⟩, RV.last n1.hr.len.symm, h1⟩

/- items -/
noncomputable def isSliceE : Expr → Bool
  | .Slice .. => true
  | _ => false
theorem slice_not {e : Expr} (h : isSliceE e = false) (o i : Value) : subscripted e false o i = operate [o, i] (getItem o i) := by
  cases e <;> first | rfl | cases h
structure WSub (C : Cx) (A : Around) (value slice : Expr) (a b : V) (σ : AH) (Q : V → AH → Prop) (E : EX) : Prop where
  run : ∀ ad s x y, HR C ad σ s.heap → RV ad a x → RV ad b y → wpAny (model C.prog C.w) A (subscriptTail value slice x y) (PE C ad s Q) E s
theorem WE_Sub {value slice : Expr} {pos : Pos} (h : WE C A env value ρ σ (fun a σ1 => WE C A env slice ρ σ1 (fun b σ2 => WSub C A value slice a b σ2 Q E) E) E) : WE C A env (.Subscript value slice pos) ρ σ Q E := by
  refine ⟨?_⟩
  intro ad s hr er
  refine Subscript_ (wpAny_mono (h.run ad s hr er) ?_ fun _ _ x => x)
  rintro a s1 ⟨ad1, σ1, va, n1, r1, h1⟩
  refine wpAny_mono (h1.run ad1 s1 n1.hr (er.next n1)) ?_ fun _ _ x => x
  rintro b s2 ⟨ad2, σ2, vb, n2, r2, h2⟩
  exact wpAny_mono (h2.run ad2 s2 a b n2.hr (n2.rv r1) r2) (fun u s' p => PE.trans (n1.trans n2) p) fun _ _ x => x
theorem item_list {value slice : Expr} {v : V} {xs : List V} {k : Int} {x : V} (b : ObjAt C σ v (.list xs)) (h0 : 0 ≤ k) (hf : k < 2 ^ 63) (hx : xs[k.toNat]? = some x) (h : Q x σ)
    (hs : isSliceE slice = false := by rfl) : WSub C A value slice v (.int k) σ Q E := by
  refine ⟨?_⟩
  rintro ad s y z hr rv ⟨t, rfl⟩
  obtain ⟨a, vs, rfl, hl, rvs⟩ := b.list hr rv
  obtain ⟨u, hu, ru⟩ := rvs.get hx
  exact tail_any hl.typeIs slot_list_getitem.lookup (wpAny_getItem_list hl h0 hf (by rw [← Array.getElem?_toList]; exact hu) (PE.here hr ru h)) (slice_not hs _ _)
theorem item_tuple {value slice : Expr} {v : V} {xs : List V} {k : Int} {x : V} (b : ObjAt C σ v (.tuple xs)) (h0 : 0 ≤ k) (hf : k < 2 ^ 63) (hx : xs[k.toNat]? = some x) (h : Q x σ)
    (hs : isSliceE slice = false := by rfl) : WSub C A value slice v (.int k) σ Q E := by
  refine ⟨?_⟩
  rintro ad s y z hr rv ⟨t, rfl⟩
  obtain ⟨a, vs, rfl, hl, rvs⟩ := b.tup hr rv
  obtain ⟨u, hu, ru⟩ := rvs.get hx
  obtain ⟨o, ho, hc, n, hd⟩ := id hl
  have hlen : k.toNat < vs.size := by
    have := (List.getElem?_eq_some_iff.mp hu).1
    simpa using this
  exact tail_any ⟨o, ho, hc⟩ F.slot_tuple_getitem.lookup (getItem_tuple ⟨o, ho, hc, n, hd⟩ (by lia) hf (j := k.toNat) (by simp [seqIndex?]; lia) (by rw [← Array.getElem?_toList]; exact hu) (PE.here hr ru h)) (slice_not hs _ _)
end
end Mine

-- part Aw7
set_option autoImplicit false
set_option linter.unusedVariables false
namespace Mine
open PySem PySem.W PyProof.Rows

noncomputable def Callable (C : Cx) (v : Value) : Prop := ∀ h, (∀ b o, C.G.get? b = some o → h.get? b = some o) → ∃ k, (k = Keeper.frame ∨ k = Keeper.machine ∨ k = Keeper.boundFrame) ∧ Looks (model C.prog C.w) h (keeperOf v) k
theorem callable_builtin {C : Cx} {id : String} : Callable C (.builtin id) := fun h _ => ⟨.machine, .inr (.inl rfl), Looks.of_pure rfl⟩
theorem callable_type {C : Cx} {id : String} : Callable C (.type id) := fun h _ => ⟨.machine, .inr (.inl rfl), Looks.of_pure rfl⟩
theorem callable_K {C : Cx} {K : Frag} {v : Value} (X : K.In C.G) (hk : keepIn K v = true) : Callable C v := fun h k => keeps_K hk h (X.keeps k)

structure WM (C : Cx) (A : Around) (v : V) (name : Str) (σ : AH) (K : Value → List V → AH → Prop) (E : EX) : Prop where
  run : ∀ ad (s : Shared) x pl, HR C ad σ s.heap → RV ad v x → wpAny (model C.prog C.w) A (getMethod x name pl) (fun fx s' => Ex3 fun ad' σ' first => And3 (Nx C [] ad s ad' σ' s') (RVs ad' first fx.2) (K fx.1 first σ')) E s

section
variable {C : Cx} {A : Around} {env : Env} {ρ : Loc} {σ : AH} {E : EX} {Q : V → AH → Prop}

theorem RVs.append {ad : List Addr} {a b : List V} {x y : List Value} (h : RVs ad a x) (h' : RVs ad b y) : RVs ad (a ++ b) (x ++ y) := by
  induction h with
  | nil => exact h'
  | cons r _ ih => exact .cons r ih

/-- no starred argument -/
noncomputable def noStar : List Expr → Bool
  | [] => true
  | .Starred _ _ :: _ => false
  | _ :: r => noStar r
theorem noStar_cons {e : Expr} {r : List Expr} (env : Env) (h : noStar (e :: r) = true) : starEach (e :: r) env = (false, eval e env) :: starEach r env ∧ noStar r = true := by
  cases e <;> first | exact ⟨rfl, h⟩ | cases h
theorem noStar_any {pos : Pos} : ∀ {es : List Expr} (env : Env), noStar es = true → (backTo pos (starEach es env)).any (·.1) = false
  | [], _, _ => rfl
  | e :: r, env, h => by
    obtain ⟨h1, h2⟩ := noStar_cons env h
    rw [h1]
    show (false || (backTo pos (starEach r env)).any (·.1)) = false
    rw [noStar_any env h2]; rfl

theorem callWith_gen {f : Value} {fs : List Value} {args : List Expr} {pos : Pos} {s : Shared} {P : Value → Shared → Prop} (hc : Callable C f) (hns : noStar args = true)
    (go : wpAny (model C.prog C.w) A (spliced (backTo pos (starEach args env))) (fun vs s' => (∀ b o, C.G.get? b = some o → s'.heap.get? b = some o) ∧ wpAny (model C.prog C.w) A (call f (fs ++ vs) []) P E s') E s) :
    wpAny (model C.prog C.w) A (callWith pos f fs (backTo pos (starEach args env)) []) P E s := by
  refine callWith_of (P := fun h => ∀ b o, C.G.get? b = some o → h.get? b = some o) (by rw [noStar_any env hns]; rfl) (fun h k => hc h k) ?_
  cases args with
  | nil =>
    have go' : wpAny (model C.prog C.w) A (spliced []) (fun vs s' => (∀ b o, C.G.get? b = some o → s'.heap.get? b = some o) ∧ wpAny (model C.prog C.w) A (call f (fs ++ vs) []) P E s') E s := go
    show wpAny (model C.prog C.w) A (evalArgs f true [] []) _ E s
    unfold evalArgs
    show wpAny _ A (spliced [] >>= _) _ E s
    refine wpAny_bind (wpAny_mono go' (fun vs s' h' => wpAny_bind (wpAny_pure ?_)) fun _ _ x => x)
    refine wpAny_holding ?_
    exact wpAny_bind (wpAny_pure (wpAny_pure h'))
  | cons e r =>
    obtain ⟨h1, h2⟩ := noStar_cons env hns
    rw [h1] at go ⊢
    exact Calls.evalArgs_plain go
theorem callWith_go {f : Value} {first : List V} {fs : List Value} {args : List Expr} {pos : Pos} {ad : List Addr} {s : Shared} (hc : Callable C f) (hns : noStar args = true) (hr : HR C ad σ s.heap) (er : ER C env ρ ad s.heap) (rf : RVs ad first fs)
    (h : WL C A env args ρ σ (fun vs σ2 => WC C A f (first ++ vs) σ2 Q E) E) : wpAny (model C.prog C.w) A (callWith pos f fs (backTo pos (starEach args env)) []) (PE C ad s Q) E s := by
  refine callWith_gen hc hns (wpAny_mono (h.run ad s pos hr er) ?_ fun _ _ x => x)
  rintro us s1 ⟨ad1, σ1, vs, n1, r1, h1⟩
  exact ⟨n1.hr.keep, wpAny_mono (h1.run ad1 s1 _ n1.hr ((n1.rvs rf).append r1)) (fun u s' p => PE.trans n1 p) fun _ _ x => x⟩

theorem WE_call {C : Cx} {l : List (Str × Value)} {id : Str} {p pos : Pos} {args : List Expr} {f : Value} (hx : (id, f) ∈ l) (hc : Callable C f) (h : WL (C.wg l) A env args ρ σ (fun vs σ2 => WC (C.wg l) A f vs σ2 Q E) E) (hns : noStar args = true := by rfl) :
    WE (C.wg l) A env (.Call (.Name id p) args [] pos) ρ σ Q E := by
  refine ⟨?_⟩
  intro ad s hr er
  refine wpAny_Call_Name_kw ?_
  have := (WE_glob (C := C) (A := A) (env := env) (ρ := ρ) (σ := σ) (E := E) (pos := p) (Q := fun v σ1 => v = .k f ∧ σ1 = σ) hx ⟨rfl, rfl⟩).run ad s hr er
  refine wpAny_mono this ?_ fun _ _ x => x
  rintro u s1 ⟨ad1, σ1, v, n1, r1, rfl, rfl⟩
  cases r1
  refine wpAny_mono (callWith_go (first := []) (fs := []) hc hns n1.hr (er.next n1) .nil h) (fun u s' p => PE.trans n1 p) fun _ _ x => x
noncomputable def plainBase : Expr → Bool
  | .Call .. => false
  | _ => true
theorem noStar_all {pos : Pos} : ∀ {es : List Expr} (env : Env), noStar es = true → (backTo pos (starEach es env)).all (!·.1) = true
  | [], _, _ => rfl
  | e :: r, env, h => by
    obtain ⟨h1, h2⟩ := noStar_cons env h
    rw [h1]
    show (true && (backTo pos (starEach r env)).all (!·.1)) = true
    rw [noStar_all env h2]; rfl
theorem meth_eval {o : Expr} {name : Str} {apos pos : Pos} {args : List Expr} {env : Env} (h1 : plainBase o = true) (h2 : noStar args = true) (h3 : Nat.ble args.length 28 = true) (h4 : (apos.endLine == pos.line) = true) :
    ∃ pl, eval (.Call (.Attribute o name apos) args [] pos) env = (do
      let ov ← eval o env
      standAt apos.atName
      let (f, first) ← holding [ov] (getMethod ov name pl)
      callWith pos f first (backTo pos (starEach args env)) (backToKw pos (keywordEach [] env))) := by
  refine ⟨(do return (← importBound o env).getD true), ?_⟩
  rw [arm_eval_Call]
  have e1 : attributeBase o name env (eval o env) = eval o env := by cases o <;> first | rfl | cases h1
  have e2 : methodCallForm (args.length + ([] : List Keyword).length) (backTo pos (starEach args env)) (backToKw pos (keywordEach [] env)) = true := by
    unfold methodCallForm
    rw [noStar_all env h2]
    have := Nat.le_of_ble_eq_true h3
    simp [backToKw, keywordEach]
    lia
  rw [e1]
  unfold methodCall calleeOf methodCallPos
  rw [e2, h4]
  rfl
theorem WE_meth {o : Expr} {name : Str} {apos pos : Pos} {args : List Expr} (h : WE C A env o ρ σ (fun v σ1 => WM C A v name σ1 (fun f first σ2 => Callable C f ∧ WL C A env args ρ σ2 (fun vs σ3 => WC C A f (first ++ vs) σ3 Q E) E) E) E) (h1 : plainBase o = true := by rfl) (hns : noStar args = true := by rfl)
    (h3 : Nat.ble args.length 28 = true := by rfl) (h4 : (apos.endLine == pos.line) = true := by rfl) :
    WE C A env (.Call (.Attribute o name apos) args [] pos) ρ σ Q E := by
  refine ⟨?_⟩
  intro ad s hr er
  obtain ⟨pl, he⟩ := meth_eval (o := o) (name := name) (env := env) h1 hns h3 h4
  refine methodCall_KW (pl := pl) ?_ he
  refine wpAny_mono (h.run ad s hr er) ?_ fun _ _ x => x
  rintro u s1 ⟨ad1, σ1, v, n1, r1, h1⟩
  refine wpAny_mono (h1.run ad1 s1 u pl n1.hr r1) ?_ fun _ _ x => x
  rintro fx s2 ⟨ad2, σ2, first, n2, r2, hc, h2⟩
  exact wpAny_mono (callWith_go hc hns n2.hr ((er.next n1).next n2) r2 h2) (fun u s' p => PE.trans (n1.trans n2) p) fun _ _ x => x

/- the heap's objects changed -/
theorem HR.set {ad : List Addr} {h h' : Heap} {j : Nat} {a : Addr} {o : O} {ob : Obj} (hr : HR C ad σ h) (hj : ad[j]? = some a) (hs : Heap.SameBut a h h') (ho : h'.get? a = some ob) (ro : RO C.w.params ad o ob) : HR C ad (σ.set j o) h' := by
  refine ⟨hr.ok, fun b x e => (hs.2 b ?_).trans (hr.keep b x e), by simp [hr.len], hr.nd, hr.off, hr.low, fun i x b h1 h2 => ?_⟩
  · rintro rfl; rw [hr.off b (List.mem_of_getElem? hj)] at e; cases e
  · by_cases hij : i = j
    · subst hij
      rw [hj] at h2; cases h2
      have hl : i < σ.length := by have := (List.getElem?_eq_some_iff.mp h1).1; simpa using this
      rw [List.getElem?_set_self hl] at h1; cases h1
      exact ⟨ob, ho, ro⟩
    · rw [List.getElem?_set_ne (Ne.symm hij)] at h1
      obtain ⟨ob', h3, h4⟩ := hr.obj i x b h1 h2
      refine ⟨ob', (hs.2 b ?_).trans h3, h4⟩
      rintro rfl
      exact hij ((List.getElem?_inj (List.getElem?_eq_some_iff.mp h2).1 hr.nd).mp (h2.trans hj.symm))
theorem Nx.set {ad : List Addr} {s : Shared} {h' : Heap} {tk : Nat} {j : Nat} {a : Addr} {o : O} {ob : Obj} (hr : HR C ad σ s.heap) (hj : ad[j]? = some a) (hs : Heap.SameBut a s.heap h') (ho : h'.get? a = some ob) (ro : RO C.w.params ad o ob) :
    Nx C [] ad s ad (σ.set j o) { s with heap := h', toks := tk } :=
  ⟨⟨h', tk, rfl⟩, ⟨[], by simp, by simp⟩, Nat.le_of_eq hs.1.symm, fun b x e hb _ => (hs.2 b fun e' => hb (e' ▸ List.mem_of_getElem? hj)).trans e, hr.set hj hs ho ro⟩

/- list.append -/
theorem WM_append {j : Nat} {xs : List V} {K : Value → List V → AH → Prop} (b : σ[j]? = some (.list xs)) (h : K (.builtin "list.append") [.ref j] σ) : WM C A (.ref j) "append" σ K E := by
  refine ⟨?_⟩
  rintro ad s x pl hr ⟨a, ha, rfl⟩
  obtain ⟨ob, h1, vs, n, e2, h2⟩ := hr.obj j _ a b ha
  subst e2
  exact Calls.getMethod_list_append h1 rfl rfl ⟨ad, σ, [.ref j], Nx.refl hr, .cons ⟨a, ha, rfl⟩ .nil, h⟩
theorem WC_append {j : Nat} {xs : List V} {x : V} (b : σ[j]? = some (.list xs)) (hz : xs.length ≤ sizeLine) (h : Q .none (σ.set j (.list (xs ++ [x])))) : WC C A (.builtin "list.append") [.ref j, x] σ Q E := by
  refine ⟨?_⟩
  rintro ad s us hr (_ | ⟨⟨a, ha, rfl⟩, _ | ⟨r2, _ | _⟩⟩)
  obtain ⟨ob, h1, vs, n, e2, rvs⟩ := hr.obj j _ a b ha
  subst e2
  refine wpAny_list_append_plain ⟨n, h1⟩ (fun h' hp hs => ?_) (by rw [← Array.length_toList, ← rvs.length]; exact hz)
  obtain ⟨n', h3⟩ := hp
  exact ⟨ad, _, .none, Nx.set (o := .list (xs ++ [x])) hr ha hs h3 ⟨_, n', rfl, by rw [Array.toList_push]; exact rvs.append (.cons r2 .nil)⟩, rfl, h⟩

/- built-ins -/
theorem WC_len {v : V} {xs : List V} (b : ObjAt C σ v (.list xs)) (hz : (xs.length : Int) < 2 ^ 63) (h : Q (.int xs.length) σ) : WC C A (.builtin "len") [v] σ Q E := by
  refine ⟨?_⟩
  rintro ad s us hr (_ | ⟨rv, _ | _⟩)
  obtain ⟨a, vs, rfl, hl, rvs⟩ := b.list hr rv
  have e : vs.size = xs.length := by rw [← Array.length_toList, ← rvs.length]
  exact Calls.call_len_list hl (by rw [e]; exact hz) (PE.tok (v := .int xs.length) _ hr ⟨_, by rw [e]⟩ h)
theorem WC_min {i j : Int} (hA : A.handled = none) (h : Q (.int (min i j)) σ) : WC C A (.builtin "min") [.int i, .int j] σ Q E := by
  refine ⟨?_⟩
  rintro ad s us hr (_ | ⟨⟨t, rfl⟩, _ | ⟨⟨u, rfl⟩, _ | _⟩⟩)
  refine wpAny_sz (min_two_ints hA fun h' tk hk hz => ⟨ad, σ, .int (min i j), Nx.keeps hz hr hk, ?_, h⟩)
  by_cases hij : j < i
  · rw [if_pos hij]; exact ⟨u, by rw [Int.min_eq_right (Int.le_of_lt hij)]⟩
  · rw [if_neg hij]; exact ⟨t, by rw [Int.min_eq_left (Int.not_lt.mp hij)]⟩
theorem WC_max {i j : Int} (hA : A.handled = none) (h : Q (.int (max i j)) σ) : WC C A (.builtin "max") [.int i, .int j] σ Q E := by
  refine ⟨?_⟩
  rintro ad s us hr (_ | ⟨⟨t, rfl⟩, _ | ⟨⟨u, rfl⟩, _ | _⟩⟩)
  refine wpAny_sz (max_two_ints hA fun h' tk hk hz => ⟨ad, σ, .int (max i j), Nx.keeps hz hr hk, ?_, h⟩)
  by_cases hij : j > i
  · rw [if_pos hij]; exact ⟨u, by rw [Int.max_eq_right (Int.le_of_lt hij)]⟩
  · rw [if_neg hij]; exact ⟨t, by rw [Int.max_eq_left (Int.not_lt.mp hij)]⟩

/- tuples taken apart -/
structure WAsL (C : Cx) (A : Around) (env : Env) (ts : List Expr) (vs : List V) (ρ : Loc) (σ : AH) (Q : Loc → AH → Prop) (E : EX) : Prop where
  run : ∀ ad (s : Shared) us, HR C ad σ s.heap → ER C env ρ ad s.heap → RVs ad vs us →
    wpAny (model C.prog C.w) A (assignInOrder ((assignEach ts env).map (·.2)) us) (fun _ s' => Ex3 fun ad' σ' ρ' => And3 (Nx C (fa env) ad s ad' σ' s') (ER C env ρ' ad' s'.heap) (Q ρ' σ')) E s
theorem WAsL_nil {Q : Loc → AH → Prop} (h : Q ρ σ) : WAsL C A env [] [] ρ σ Q E := by
  refine ⟨?_⟩
  rintro ad s us hr er ⟨⟩
  exact wpAny_pure ⟨ad, σ, ρ, Nx.refl hr, er, h⟩
theorem WAsL_cons {t : Expr} {ts : List Expr} {v : V} {vs : List V} {Q : Loc → AH → Prop} (h : WAs C A env t v ρ σ (fun ρ1 σ1 => WAsL C A env ts vs ρ1 σ1 Q E) E)
    (he : starE t = false := by rfl) : WAsL C A env (t :: ts) (v :: vs) ρ σ Q E := by
  refine ⟨?_⟩
  rintro ad s us hr er (_ | ⟨r, rs⟩)
  rw [assign_not he]
  show wpAny _ A (assignInOrder (assign t env :: _) (_ :: _)) _ E s
  unfold assignInOrder
  refine wpAny_bind (wpAny_holding (wpAny_mono (h.run ad s _ hr er r) ?_ fun _ _ x => x))
  rintro _ s1 ⟨ad1, σ1, ρ1, n1, er1, h1⟩
  refine wpAny_mono (h1.run ad1 s1 _ n1.hr er1 (n1.rvs rs)) ?_ fun _ _ x => x
  rintro _ s2 ⟨ad2, σ2, ρ2, n2, er2, h2⟩
  exact ⟨ad2, σ2, ρ2, n1.trans n2, er2, h2⟩
theorem noStar_asg {e : Expr} {r : List Expr} (env : Env) (h : noStar (e :: r) = true) : assignEach (e :: r) env = (false, assign e env) :: assignEach r env ∧ noStar r = true := by
  cases e <;> first | exact ⟨rfl, h⟩ | cases h
theorem noStar_len (env : Env) : ∀ {ts : List Expr}, noStar ts = true → (assignEach ts env).length = ts.length
  | [], _ => rfl
  | e :: r, h => by
    obtain ⟨h1, h2⟩ := noStar_asg env h
    rw [h1, List.length_cons, List.length_cons, noStar_len env h2]
theorem noStar_idx (env : Env) : ∀ {ts : List Expr}, noStar ts = true → (assignEach ts env).findIdx? (·.1) = none
  | [], _ => rfl
  | e :: r, h => by
    obtain ⟨h1, h2⟩ := noStar_asg env h
    rw [h1, List.findIdx?_cons, noStar_idx env h2]; rfl
theorem WAs_tuple {ts : List Expr} {k : Nat} {p : Pos} {v : V} {vs : List V} {Q : Loc → AH → Prop} (hA : A.handled = none) (b : ObjAt C σ v (.tuple vs)) (h : WAsL C A env ts vs ρ σ Q E)
    (hn : ts.length = vs.length := by rfl) (hst : noStar ts = true := by rfl) : WAs C A env (.Tuple ts k p) v ρ σ Q E := by
  refine ⟨?_⟩
  intro ad s u hr er rv
  obtain ⟨a, us, rfl, hl, rvs⟩ := b.tup hr rv
  rw [arm_assign_Tuple]
  refine wpAny_bind (wpAny_standAt ?_)
  unfold unpack
  have e : (assignEach ts env).length = us.size := by rw [noStar_len env hst, hn, ← Array.length_toList, ← rvs.length]
  rw [e, noStar_idx env hst]
  refine wpAny_bind (wpAny_holding (wpAny_sz (wpAny_unpackItems_tuple hA hl fun h' he hz => ?_)))
  have hk : ∀ b o, s.heap.get? b = some o → h'.get? b = some o := fun b o e => he b o (Nat.ne_of_lt (Heap.lt_size e)) e
  have n1 : Nx C [] ad s ad σ { s with heap := h' } := Nx.keeps (tk := s.toks) hz hr hk
  refine wpAny_mono (h.run ad _ _ n1.hr (er.next n1) rvs) ?_ fun _ _ x => x
  rintro _ s2 ⟨ad2, σ2, ρ2, n2, er2, h2⟩
  exact ⟨ad2, σ2, ρ2, n1.weak.trans n2, er2, h2⟩
noncomputable def isTupE : Expr → Bool
  | .Tuple .. => true
  | _ => false
theorem stores_not {ts : List Expr} {k : Nat} {p : Pos} {e : Expr} {env : Env} (h : isTupE e = false) : swappedStores [.Tuple ts k p] e env = pure none := by
  cases e <;> first | rfl | cases h
theorem WS_assign_tuple {ts : List Expr} {k : Nat} {p pos : Pos} {e : Expr} {Q : Fl → Loc → AH → Prop} (h : WE C A env e ρ σ (fun v σ1 => WAs C A env (.Tuple ts k p) v ρ σ1 (fun ρ' σ' => Q .next ρ' σ') E) E)
    (hs : isCompE e = false := by rfl) (hw : isTupE e = false := by rfl) : WS C A env (.Assign [.Tuple ts k p] e pos) ρ σ Q E := by
  refine ⟨?_⟩
  intro ad s hr er
  refine Assign_Tuple (wpAny_mono (h.run ad s hr er) ?_ fun _ _ x => x) (show swapsWith e (some (.Tuple ts k p)) pos.line env = pure false from swaps_not hs) (stores_not hw)
  rintro u s1 ⟨ad1, σ1, v, n1, r1, h1⟩
  refine wpAny_mono (h1.run ad1 s1 u n1.hr (er.next n1) r1) ?_ fun _ _ x => x
  rintro _ s2 ⟨ad2, σ2, ρ2, n2, er2, h2⟩
  exact ⟨ad2, σ2, ρ2, .next, n1.weak.trans n2, er2, rfl, h2⟩
theorem WS_expr {e : Expr} {pos : Pos} {Q : Fl → Loc → AH → Prop} (h : WE C A env e ρ σ (fun v σ1 => Q .next ρ σ1) E) (hs : isCompE e = false := by rfl) : WS C A env (.Expr e pos) ρ σ Q E := by
  refine ⟨?_⟩
  intro ad s hr er
  refine wpAny_Expr_any (wpAny_mono (h.run ad s hr er) ?_ fun _ _ x => x) (by unfold interactive; rw [er.kind]; rfl) (swaps_not hs)
  rintro u s1 ⟨ad1, σ1, v, n1, r1, h1⟩
  exact PS.ofE er n1 (fl := .next) rfl h1
/- ranges -/
theorem rangeWk {I : Addr} {a c : Int} {n : Nat} {ad0 : List Addr} (hA : A.handled = none) : Wk C A ad0 I n (fun i => .int (a + i * c)) (fun _ => True) (fun i h => IsRangeIter h I (a + (i : Nat) * c) ((n : Int) - (i : Nat)) c) := by
  refine ⟨?_, ?_, ?_, ?_, fun i s Q E st hQ => wpAny_pyIter_rangeiter st hQ, ?_⟩
  · intro i h h' st e
    show h'.get? I = _
    rw [e]; exact st
  · intro i h st; exact ⟨_, st⟩
  · intro i ad σ' s Q E' hi _ hr _ st hQ
    refine wpAny_pyNext_range_item st (by lia) fun h' hit' hs' => ?_
    refine hQ _ h' _ ⟨_, rfl⟩ ?_ hs'
    have e1 : a + ((i + 1 : Nat) : Int) * c = a + (i : Int) * c + c := by push_cast; rw [Int.add_mul, Int.one_mul, Int.add_assoc]
    have e2 : (n : Int) - ((i + 1 : Nat) : Int) = (n : Int) - (i : Int) - 1 := by push_cast; lia
    rw [e1, e2]; exact hit'
  · intro ad σ' s Q E' _ hr _ st hQ
    exact wpAny_pyNext_range_end hA st (by lia) fun h' he' => hQ h' s.toks fun b o hb e => he' b o hb e
  · intro i s t u Q E' st hq
    exact notOwned st rfl hq
open Builtin.Range (rangeSize) in
/-- range's arguments -/
noncomputable def rngArgs : List V → Option (Int × Int × Int)
  | [.int b] => some (0, b, 1)
  | [.int a, .int b] => some (a, b, 1)
  | [.int a, .int b, .int c] => some (a, b, c)
  | _ => none
theorem rng_small {a b c : Int} (ha : -(2 ^ 60) ≤ a ∧ a ≤ 2 ^ 60) (hb : -(2 ^ 60) ≤ b ∧ b ≤ 2 ^ 60) (hc : c ≠ 0) (hc' : -(2 ^ 30) < c ∧ c < 2 ^ 30) : Builtin.Range.small a b c = true := by
  have h1 : (0 ≤ Builtin.Range.rangeSize a b c ∧ Builtin.Range.rangeSize a b c ≤ 2 ^ 62) := by
    unfold Builtin.Range.rangeSize
    have d1 : ∀ x y : Int, 0 ≤ x → 0 < y → 0 ≤ x / y ∧ x / y ≤ x := fun x y hx hy => ⟨Int.ediv_nonneg hx (Int.le_of_lt hy), Int.ediv_le_self _ hx⟩
    split
    · split
      · have := d1 (b - a - 1) c (by lia) (by lia); lia
      · lia
    · split
      · have := d1 (a - b - 1) (-c) (by lia) (by lia); lia
      · lia
  unfold Builtin.Range.small Builtin.Range.rangeFitsLong
  simp only [Bool.and_eq_true, decide_eq_true_eq, Bool.or_eq_true, beq_iff_eq]
  refine ⟨⟨⟨⟨by lia, by lia⟩, by lia⟩, by lia⟩, .inr ?_⟩
  split
  · simp only [Bool.and_eq_true, decide_eq_true_eq]; lia
  · simp only [Bool.and_eq_true, decide_eq_true_eq]; lia
theorem WItr_range {C : Cx} {l : List (Str × Value)} {id : Str} {p pos : Pos} {args : List Expr} {K : Nat → (Nat → V) → (AH → Prop) → AH → Prop} (hA : A.handled = none) (hf : (id, Value.type "range") ∈ l)
    (h : WL (C.wg l) A env args ρ σ (fun vs σ1 => Ex3 fun a b c => And6 (rngArgs vs = some (a, b, c)) (c ≠ 0) ((-(2 ^ 60) ≤ a ∧ a ≤ 2 ^ 60)) ((-(2 ^ 60) ≤ b ∧ b ≤ 2 ^ 60)) ((-(2 ^ 30) < c ∧ c < 2 ^ 30)) (K (Builtin.Range.rangeSize a b c).toNat (fun i => .int (a + i * c)) (fun _ => True) σ1)) E)
    (hns : noStar args = true := by rfl) : WItr (C.wg l) A env (.Call (.Name id p) args [] pos) ρ σ K E := by
  refine ⟨?_⟩
  intro ad s hr er
  refine wpAny_Call_Name_kw ?_
  have := (WE_glob (C := C) (A := A) (env := env) (ρ := ρ) (σ := σ) (E := E) (pos := p) (Q := fun v σ1 => v = .k (.type "range") ∧ σ1 = σ) hf ⟨rfl, rfl⟩).run ad s hr er
  refine wpAny_mono this ?_ fun _ _ x => x
  rintro u s1 ⟨ad1, σ1, v, n1, r1, rfl, rfl⟩
  cases r1
  refine callWith_gen (callable_type (C := C.wg l)) hns (wpAny_mono (h.run ad1 s1 pos n1.hr (er.next n1)) ?_ fun _ _ x => x)
  rintro us s2 ⟨ad2, σ2, vs, n2, r2, a, b, c, hv, hc0, ha, hb, hc, hk⟩
  refine ⟨n2.hr.keep, ?_⟩
  have n12 := n1.trans n2
  have sm := rng_small ha hb hc0 hc
  have fin : ∀ (s3 : Shared) (t u v : Tok), s3 = { s2 with heap := s2.heap.push { cls := .type "range", data := .fields #[.int a t, .int b u, .int c v] }, toks := s3.toks } →
      wpAny (model C.prog C.w) A (pyIter (.ref s2.heap.objs.size)) (fun it s2 => Ex7 fun ad' σ' n P Cd I St => And7 (it = .ref I) (Wk (C.wg l) A ad' I n P Cd St) (St 0 s2.heap) (s.heap.objs.size ≤ I) (I ∉ ad') (Nx (C.wg l) [] ad s ad' σ' s2) (K n P Cd σ')) E s3 := by
    intro s3 t u v e3
    have hh : s3.heap = s2.heap.push { cls := .type "range", data := .fields #[.int a t, .int b u, .int c v] } := by rw [e3]
    have n3 : Nx (C.wg l) [] ad2 s2 ad2 σ2 s3 := by rw [e3]; exact Nx.keeps (by simp [Heap.push]) n2.hr fun b o e => Heap.get?_push_of_some _ e
    refine wpAny_pyIter_range (t := t) (u := u) (v := v) (by rw [hh]; exact Heap.get?_push_size _ rfl) sm ?_
    have hsz : s.heap.objs.size ≤ s3.heap.objs.size := Nat.le_trans n12.size n3.size
    have h0 : 0 ≤ Builtin.Range.rangeSize a b c := by
      unfold Builtin.Range.rangeSize
      split
      · split
        · have := Int.ediv_nonneg (a := b - a - 1) (b := c) (by lia) (by lia); lia
        · lia
      · split
        · have := Int.ediv_nonneg (a := a - b - 1) (b := -c) (by lia) (by lia); lia
        · lia
    refine ⟨ad2, σ2, _, _, _, s3.heap.objs.size, _, rfl, rangeWk (a := a) (c := c) (n := (Builtin.Range.rangeSize a b c).toNat) hA, ?_, hsz, (n3.hr.fresh (Nat.le_refl _)).2, (n12.trans n3).trans (Nx.push _ n3.hr), hk⟩
    show (s3.heap.push _).get? _ = _
    rw [Heap.get?_push_size _ rfl]
    have e1 : ((Builtin.Range.rangeSize a b c).toNat : Int) = Builtin.Range.rangeSize a b c := Int.toNat_of_nonneg h0
    simp [e1]
  show wpAny _ A (call (.type "range") us) _ E s2
  have three : (∃ b', vs = [.int b'] ∧ (0, b', 1) = (a, b, c)) ∨ (∃ a' b', vs = [.int a', .int b'] ∧ (a', b', 1) = (a, b, c)) ∨ vs = [.int a, .int b, .int c] := by
    unfold rngArgs at hv
    split at hv
    · exact .inl ⟨_, rfl, Option.some.inj hv⟩
    · exact .inr (.inl ⟨_, _, rfl, Option.some.inj hv⟩)
    · cases hv; exact .inr (.inr rfl)
    · cases hv
  rcases three with ⟨b', rfl, e⟩ | ⟨a', b', rfl, e⟩ | rfl
  · cases e
    rcases r2 with _ | ⟨⟨t, rfl⟩, _ | _⟩
    exact call_range_1 (fin _ _ _ _ rfl)
  · cases e
    rcases r2 with _ | ⟨⟨t, rfl⟩, _ | ⟨⟨t', rfl⟩, _ | _⟩⟩
    exact call_range_2 (fin _ _ _ _ rfl)
  · rcases r2 with _ | ⟨⟨t, rfl⟩, _ | ⟨⟨t', rfl⟩, _ | ⟨⟨t'', rfl⟩, _ | _⟩⟩⟩
    exact call_range_3 hc0 (fin _ _ _ _ rfl) (.inl (PyProof.noPylong_small (by lia)))
end
end Mine

-- part Aw8
set_option autoImplicit false
set_option linter.unusedVariables false
namespace Mine
open PySem PySem.W PyProof.Rows

theorem szAnd {n : Nat} {P : Prop} (h : P) (hn : n ≤ sizeLine := by exact Nat.le_of_ble_eq_true rfl) : n ≤ sizeLine ∧ P := ⟨hn, h⟩
theorem ite_b {b : Bool} {P Q : Prop} (h1 : b = true → P) (h2 : b = false → Q) : if b = true then P else Q := by
  cases b with
  | true => exact h1 rfl
  | false => exact h2 rfl
theorem mul_small {a b : Int} (h1 : -(2 ^ 63) ≤ a) (h2 : a ≤ 2 ^ 63) : IntMulOk a b := IntMulOk.of_left (intBits_le_64 (by lia) (by lia))
theorem mul_small_r {a b : Int} (h1 : -(2 ^ 63) ≤ b) (h2 : b ≤ 2 ^ 63) : IntMulOk a b := IntMulOk.of_right (intBits_le_64 (by lia) (by lia))
theorem RVs.ints {vs : List Value} {ns : List Int} (h : IntsAre vs ns) : RVs [] (ns.map .int) vs := by
  induction h with
  | nil => exact .nil
  | cons => exact .cons ⟨_, rfl⟩ (by assumption)

/-- from a law's call in the abstract to the claim -/
theorem bridge (l : OpenLaw) {C : Cx} {w : World} {s₁ : Shared} {args : List WData} {cl : Str → Option Addr} {mean : ExcName → Option Value} {f a : Addr} (hp : C.prog = l.row.prog) (hw : C.w = w) (hG : C.G = s₁.heap) (ok : C.Ok) (hg : s₁.gens = #[])
    (h : WC C callerA (.ref f) [.k (.ref a)] [] (fun v _ => v = .bool true) (fun _ _ => False)) :
    wpAny (model l.row.prog w) callerA (call (.ref f) [.ref a]) (fun v s' => GoodWG l.row.claim cl mean args s₁ (.ok (.ret v)) s') (fun e s' => GoodWG l.row.claim cl mean args s₁ (.error e) s') s₁ := by
  subst hw
  rw [← hp]
  have hr : HR C [] [] s₁.heap := ⟨ok, (fun b o e => by rw [← hG]; exact e), rfl, List.nodup_nil, (fun _ h => nomatch h), (fun _ h => nomatch h), (fun i o a h => by simp at h)⟩
  refine wpAny_mono (h.run [] s₁ [.ref a] hr (.cons rfl .nil)) ?_ fun _ _ x => x.elim
  rintro u s' ⟨ad', σ', v, n, rv, rfl⟩
  cases rv
  obtain ⟨h', tk, e⟩ := n.eq
  refine GoodW.toG ⟨.inl ⟨.bool true, .bool true, [], rfl, fun cls => rfl, .bool true, ?_, unshared_nil⟩, fun b o e => n.hr.keep b o (by rw [hG]; exact e), by rw [e], by rw [e]; exact hg⟩
  exact postW_of (r := l.row.toRowW) rfl (w_eq_bool (w_res rfl) w_lit) rfl
end Mine

-- part Aw9
set_option autoImplicit false
set_option linter.unusedVariables false
namespace Mine
open PySem PySem.W PyProof.Rows

theorem ite_t {c : Bool} {P Q : Prop} (hc : c = true) (h : P) : if c = true then P else Q := by rw [if_pos hc]; exact h
theorem ite_f {c : Bool} {P Q : Prop} (hc : c = false) (h : Q) : if c = true then P else Q := by rw [if_neg (by rw [hc]; decide)]; exact h

section
variable {C : Cx} {A : Around} {env : Env} {ρ : Loc} {σ : AH} {E : EX} {Q : V → AH → Prop}

theorem fdiv_ii {i j : Int} (hj : j ≠ 0) (h : Q (.int (i.fdiv j)) σ) (hs : j.natAbs < 1073741824 := by first | decide | lia) : WOp2 C A (binaryOp .FloorDiv) (.int i) (.int j) σ Q E := by
  refine ⟨?_⟩
  rintro ad s x y hr ⟨t, rfl⟩ ⟨u, rfl⟩
  exact floordiv_int hj (PE.tok (v := .int (i.fdiv j)) _ hr ⟨_, rfl⟩ h) (.inl (PyProof.noPylong_small hs))
theorem fdiv_lit {i j : Int} (hj : j ≠ 0 ∧ j.natAbs < 1073741824) (h : Q (.int (i.fdiv j)) σ) : WOp2 C A (binaryOp .FloorDiv) (.int i) (.int j) σ Q E := fdiv_ii hj.1 h hj.2
theorem WS_break {pos : Pos} {Q : Fl → Loc → AH → Prop} (h : Q .brk ρ σ) : WS C A env (.Break pos) ρ σ Q E := by
  refine ⟨?_⟩
  intro ad s hr er
  exact wpAny_Break ⟨ad, σ, ρ, .brk, Nx.refl hr, er, rfl, h⟩
theorem WS_continue {pos : Pos} {Q : Fl → Loc → AH → Prop} (h : Q .cont ρ σ) : WS C A env (.Continue pos) ρ σ Q E := by
  refine ⟨?_⟩
  intro ad s hr er
  exact wpAny_Continue ⟨ad, σ, ρ, .cont, Nx.refl hr, er, rfl, h⟩
theorem WC_abs {i : Int} (h : Q (.int (if i < 0 then -i else i)) σ) : WC C A (.builtin "abs") [.int i] σ Q E := by
  refine ⟨?_⟩
  rintro ad s us hr (_ | ⟨⟨t, rfl⟩, _ | _⟩)
  exact call_abs_int fun u tk => PE.tok (v := .int _) tk hr ⟨_, rfl⟩ h

end
end Mine

-- part Aw10
set_option autoImplicit false
set_option linter.unusedVariables false
namespace Mine
open PySem PySem.W PyProof.Rows PySem.SeqAt

section
variable {C : Cx} {A : Around} {env : Env} {ρ : Loc} {σ : AH} {E : EX} {Q : V → AH → Prop}

theorem shr_ii {i n : Int} (hn : 0 ≤ n) (h : Q (.int (i.fdiv (2 ^ n.toNat))) σ) : WOp2 C A (binaryOp .RShift) (.int i) (.int n) σ Q E := by
  refine ⟨?_⟩
  rintro ad s x y hr ⟨t, rfl⟩ ⟨u, rfl⟩
  exact rshift_int hn (PE.tok (v := .int (i.fdiv (2 ^ n.toNat))) _ hr ⟨_, rfl⟩ h)

/- in, not in -/
/- an item of a dict of the top -/
/- slices of lists -/
noncomputable def pickV {α : Type} (xs : List α) (lo hi st : Option Int) : List α :=
  (sliceRange (sliceBounds lo hi st xs.length).1 (sliceBounds lo hi st xs.length).2.1 (sliceBounds lo hi st xs.length).2.2).filterMap (xs[·]?)
theorem RVs.none_of {ad : List Addr} {v : List V} {x : List Value} (h : RVs ad v x) {i : Nat} (e : v[i]? = none) : x[i]? = none := by
  rw [List.getElem?_eq_none_iff] at e ⊢
  rw [← h.length]; exact e
theorem RVs.places {ad : List Addr} {v : List V} {x : List Value} (h : RVs ad v x) : ∀ js : List Nat, RVs ad (js.filterMap (v[·]?)) (js.filterMap (x[·]?))
  | [] => .nil
  | j :: js => by
    have ih := h.places js
    cases hn : v[j]? with
    | some n =>
      obtain ⟨u, hv, r⟩ := h.get hn
      simp only [List.filterMap_cons, hn, hv]
      exact .cons r ih
    | none =>
      simp only [List.filterMap_cons, hn, h.none_of hn]
      exact ih
theorem RVs.pick {ad : List Addr} {v : List V} {x : Array Value} (h : RVs ad v x.toList) (lo hi st : Option Int) : RVs ad (pickV v lo hi st) (slicePick x lo hi st).toList := by
  have e : (slicePick x lo hi st).toList = (sliceRange (sliceBounds lo hi st v.length).1 (sliceBounds lo hi st v.length).2.1 (sliceBounds lo hi st v.length).2.2).filterMap (x.toList[·]?) := by
    have := h.length
    simp only [Array.length_toList] at this
    simp [slicePick, this]
  rw [e]
  exact h.places _
theorem exInt {i : Int} {P : Int → Prop} (h : P i) : ∃ j, V.int i = V.int j ∧ P j := ⟨i, rfl, h⟩
theorem ObjAt.new {xs : O} : ∀ {n : Nat}, n = σ.length → ObjAt C (σ ++ [xs]) (.ref n) xs := by rintro n rfl; show (σ ++ [xs])[σ.length]? = _; simp
structure WO (C : Cx) (A : Around) (env : Env) (e : Option Expr) (ρ : Loc) (σ : AH) (Q : Option Int → AH → Prop) (E : EX) : Prop where
  run : ∀ ad (s : Shared), HR C ad σ s.heap → ER C env ρ ad s.heap → wpAny (model C.prog C.w) A (evalPart e env) (fun u s' => Ex3 fun ad' σ' k => And3 (Nx C [] ad s ad' σ' s') (IsPart u k) (Q k σ')) E s
theorem WO_none {Q : Option Int → AH → Prop} (h : Q none σ) : WO C A env none ρ σ Q E := ⟨fun ad s hr er => wpAny_pure ⟨ad, σ, none, Nx.refl hr, .none, h⟩⟩
theorem WO_some {Q : Option Int → AH → Prop} {e : Expr} (h : WE C A env e ρ σ (fun v σ1 => ∃ i, v = .int i ∧ Q (some i) σ1) E) : WO C A env (some e) ρ σ Q E := by
  refine ⟨?_⟩
  intro ad s hr er
  rw [evalPart_some]
  refine wpAny_mono (h.run ad s hr er) ?_ fun _ _ x => x
  rintro u s1 ⟨ad1, σ1, v, n1, r1, i, rfl, h1⟩
  obtain ⟨t, rfl⟩ := r1
  exact ⟨ad1, σ1, some i, n1, .int _ _, h1⟩
theorem sub_ops (lo hi st : Option Expr) (p : Pos) (o i : Value) : ∃ ops, subscripted (.Slice lo hi st p) false o i = operate ops (getItem o i) := by
  cases st
  · exact ⟨[i, o], rfl⟩
  · exact ⟨[o, i], rfl⟩
theorem WE_slice {value : Expr} {lo hi st : Option Expr} {p pos : Pos} (h : WE C A env value ρ σ (fun v σ1 => WO C A env lo ρ σ1 (fun l σ2 => WO C A env hi ρ σ2 (fun u σ3 => WO C A env st ρ σ3 (fun k σ4 => Ex1 fun xs => And4 (ObjAt C σ4 v (.list xs)) (k ≠ some 0) (xs.length ≤ sizeLine) (Q (.ref σ4.length) (σ4 ++ [.list (pickV xs l u k)]))) E) E) E) E) : WE C A env (.Subscript value (.Slice lo hi st p) pos) ρ σ Q E := by
  refine ⟨?_⟩
  intro ad s hr er
  refine Subscript_ (wpAny_mono (h.run ad s hr er) ?_ fun _ _ x => x)
  rintro a s1 ⟨ad1, σ1, va, n1, r1, h1⟩
  refine wpAny_Slice (wpAny_mono (h1.run ad1 s1 n1.hr (er.next n1)) ?_ fun _ _ x => x)
  rintro l s2 ⟨ad2, σ2, kl, n2, p2, h2⟩
  refine wpAny_mono (h2.run ad2 s2 n2.hr ((er.next n1).next n2)) ?_ fun _ _ x => x
  rintro u s3 ⟨ad3, σ3, ku, n3, p3, h3⟩
  refine wpAny_mono (h3.run ad3 s3 n3.hr (((er.next n1).next n2).next n3)) ?_ fun _ _ x => x
  rintro k s4 ⟨ad4, σ4, kk, n4, p4, xs, hb, h0, hz, h4⟩
  have n14 := (n1.trans n2).trans (n3.trans n4)
  have n24 := n2.trans (n3.trans n4)
  obtain ⟨b, vs, rfl, hl, rvs⟩ := hb.list n4.hr (n24.rv r1)
  obtain ⟨ops, hops⟩ := sub_ops lo hi st p (.ref b) (.ref s4.heap.objs.size)
  have np := Nx.push (C := C) (s := s4) { cls := .type "slice", data := .fields #[l, u, k] } n4.hr
  refine tail_any (Heap.IsList.typeIs (s := { s4 with heap := s4.heap.push { cls := .type "slice", data := .fields #[l, u, k] } }) (hl.push _)) slot_list_getitem.lookup
    (wpAny_getItem_list_slice (hl.push _) (Heap.IsSliceOf.new ..) p2 p3 p4 h0 ?_ (by rw [← Array.length_toList, ← rvs.length]; exact hz)) hops
  have na := Nx.alloc (o := .list (pickV xs kl ku kk)) np.hr ⟨_, 0, rfl, rvs.pick kl ku kk⟩
  exact PE.trans (n14.trans np) ⟨_, _, .ref σ4.length, na, RV.last np.hr.len.symm, h4⟩

/- list(x) -/
theorem HR.adopt {ad : List Addr} {h h' : Heap} {o : O} {ob : Obj} {a : Addr} (hr : HR C ad σ h) (hk : ∀ b o, h.get? b = some o → h'.get? b = some o) (ha : h.objs.size ≤ a) (hn : h'.get? a = some ob) (ro : RO C.w.params ad o ob) : HR C (ad ++ [a]) (σ ++ [o]) h' := by
  obtain ⟨hG, hn'⟩ := hr.fresh ha
  refine ⟨hr.ok, fun b x e => hk _ _ (hr.keep b x e), by simp [hr.len], ?_, ?_, fun a1 ha1 => (List.mem_append.mp ha1).elim (hr.low a1) (fun hm => by rw [List.mem_singleton.mp hm]; exact hr.freshLow ha), ?_⟩
  · refine List.nodup_append.mpr ⟨hr.nd, by simp, ?_⟩
    intro a1 ha1 b1 hb1 e
    simp only [List.mem_singleton] at hb1
    subst hb1; subst e; exact hn' ha1
  · intro a1 ha1
    rcases List.mem_append.mp ha1 with ha1 | ha1
    · exact hr.off a1 ha1
    · simp only [List.mem_singleton] at ha1; subst ha1; exact hG
  · intro i x a1 h1 h2
    by_cases hi : i < σ.length
    · rw [List.getElem?_append_left hi] at h1
      rw [List.getElem?_append_left (by rw [hr.len]; exact hi)] at h2
      obtain ⟨ob', h3, h4⟩ := hr.obj i x a1 h1 h2
      exact ⟨ob', hk _ _ h3, h4.mono⟩
    · have hi' : i = σ.length := by
        have := (List.getElem?_eq_some_iff.mp h1).1
        simp at this; lia
      subst hi'
      rw [List.getElem?_append_right (Nat.le_refl _)] at h1
      rw [List.getElem?_append_right (by rw [hr.len]; exact Nat.le_refl _)] at h2
      simp [hr.len] at h1 h2
      subst h1; subst h2
      exact ⟨ob, hn, ro.mono⟩
theorem WC_list {v : V} {xs : List V} (b : ObjAt C σ v (.list xs)) (hz : xs.length ≤ sizeLine) (h : Q (.ref σ.length) (σ ++ [.list xs])) : WC C A (.type "list") [v] σ Q E := by
  refine ⟨?_⟩
  rintro ad s us hr (_ | ⟨rv, _ | _⟩)
  obtain ⟨a, vs, rfl, hl, rvs⟩ := b.list hr rv
  obtain ⟨o, ho, hc, n, hd⟩ := id hl
  refine wpAny_sz (call_list_seq a (.inl rfl) ho hc hd (fun h' c' hk hn hsz => ?_) (by rw [← Array.length_toList, ← rvs.length]; exact hz))
  have hnn := hr.fresh (Nat.le_refl _)
  refine ⟨ad ++ [s.heap.objs.size], σ ++ [.list xs], .ref σ.length, ⟨⟨h', s.toks, rfl⟩, ⟨[s.heap.objs.size], rfl, by simp⟩, hsz, fun b o e _ _ => hk b o e, ?_⟩, RV.last hr.len.symm, h⟩
  exact HR.adopt hr hk (Nat.le_refl _) hn ⟨vs, c', rfl, rvs⟩
end
end Mine

-- part Aw11
set_option autoImplicit false
set_option linter.unusedVariables false
namespace Mine
open PySem PySem.W PyProof.Rows

noncomputable def relab (ns : List (Str × NameKind)) : List (Str × NameKind) := ns.map fun p => if p.2 == .free then (p.1, .cell) else p
noncomputable def clOf (env : Env) : List (Str × NameKind) → List (Str × Addr) → List (Str × Addr)
  | [], cs => cs
  | p :: r, cs => clOf env r (if p.2 == .free then (p.1, (env.cells.lookup p.1).getD 0) :: cs else cs)
theorem closure_of {env : Env} {sc : Scope} (h : ∀ n, (n, NameKind.free) ∈ sc.names → (env.cells.lookup n).isSome = true) : closureFor sc env = pure (clOf env sc.names []) := by
  simp only [closureFor]
  generalize sc.names = ns at h ⊢
  generalize ([] : List (Str × Addr)) = cs
  induction ns generalizing cs with
  | nil => rfl
  | cons p r ih =>
    obtain ⟨n, k⟩ := p
    have ihr := fun cs => ih (fun n hn => h n (List.mem_cons_of_mem _ hn)) cs
    rw [List.forIn_cons]
    by_cases hk : (k == NameKind.free) = true
    · have hk' : k = .free := by simpa using hk
      subst hk'
      have hn := h n List.mem_cons_self
      obtain ⟨c, hc⟩ := Option.isSome_iff_exists.mp hn
      have e1 : cellOf env n = pure c := by unfold cellOf; rw [hc]
      rw [if_pos hk, e1]
      have := ihr ((n, c) :: cs)
      simpa [clOf, hc] using this
    · rw [if_neg hk]
      have := ihr cs
      simpa [clOf, hk] using this

theorem clOf_mem {env : Env} : ∀ {ns : List (Str × NameKind)} {cs : List (Str × Addr)}, (∀ n, (n, NameKind.free) ∈ ns → (env.cells.lookup n).isSome = true) → (∀ p ∈ cs, env.cells.lookup p.1 = some p.2) → ∀ p ∈ clOf env ns cs, env.cells.lookup p.1 = some p.2
  | [], _, _, h, p, hp => h p hp
  | q :: r, cs, h0, h, p, hp => by
    refine clOf_mem (ns := r) (fun n hn => h0 n (List.mem_cons_of_mem _ hn)) ?_ p hp
    obtain ⟨n, k⟩ := q
    split
    · rename_i hk
      have hk' : k = .free := by simpa using hk
      subst hk'
      obtain ⟨c, hc⟩ := Option.isSome_iff_exists.mp (h0 n List.mem_cons_self)
      intro p hp
      rcases List.mem_cons.mp hp with rfl | hp
      · simp [hc]
      · exact h p hp
    · exact h
theorem lookup_cons_isSome {α : Type} {y : Str} {p : Str × α} {cs : List (Str × α)} (h : (cs.lookup y).isSome = true) : ((p :: cs).lookup y).isSome = true := by
  rw [List.lookup_cons]
  split
  · rfl
  · exact h
theorem clOf_some {env : Env} {y : Str} : ∀ {ns : List (Str × NameKind)} {cs : List (Str × Addr)}, ((y, NameKind.free) ∈ ns ∨ (cs.lookup y).isSome = true) → ((clOf env ns cs).lookup y).isSome = true
  | [], _, h => by
    rcases h with h | h
    · cases h
    · exact h
  | q :: r, cs, h => by
    refine clOf_some (ns := r) ?_
    rcases h with h | h
    · rcases List.mem_cons.mp h with e | h
      · subst e; right; simp [List.lookup_cons]
      · exact .inl h
    · right
      split
      · exact lookup_cons_isSome h
      · exact h
theorem mem_of_lookup {α : Type} {y : Str} : ∀ {cs : List (Str × α)} {c : α}, cs.lookup y = some c → (y, c) ∈ cs
  | [], _, h => by cases h
  | (n, d) :: r, c, h => by
    rw [List.lookup_cons] at h
    split at h
    · rename_i e
      have : y = n := by simpa using e
      cases h; subst this; exact List.mem_cons_self
    · exact List.mem_cons_of_mem _ (mem_of_lookup h)
theorem relab_lookup {y : Str} : ∀ {ns : List (Str × NameKind)} {k : NameKind}, ns.lookup y = some k → (relab ns).lookup y = some (if k == .free then .cell else k)
  | [], _, h => by cases h
  | (n, d) :: r, k, h => by
    have ih := fun k => @relab_lookup y r k
    rw [List.lookup_cons] at h
    show List.lookup y ((if (d == NameKind.free) = true then (n, NameKind.cell) else (n, d)) :: relab r) = _
    by_cases hd : (d == NameKind.free) = true
    · rw [if_pos hd, List.lookup_cons]
      split at h
      · cases h; simp [*]
      · simp [*]
    · rw [if_neg hd, List.lookup_cons]
      split at h
      · cases h; simp [*]
      · simp [*]
/-- the comprehension's names are as wished -/
noncomputable def compOk (onames : List (Str × NameKind)) (sc : Scope) (x : Str) (capt gl : List Str) : Bool :=
  sc.names.all (fun p => p.2 != .cell && (p.2 != .local || sc.names.lookup p.1 == some .local) && (p.2 != .free || (capt.contains p.1 && onames.lookup p.1 == some .cell)))
  && sc.names.lookup x == some .local && nmOk x && !capt.contains x
  && capt.all (fun y => nmOk y && sc.names.lookup y == some .free)
  && gl.all (fun y => nmOk y && sc.names.lookup y == some .globalImplicit)
structure CompOk (onames : List (Str × NameKind)) (sc : Scope) (x : Str) (capt gl : List Str) : Prop where
  nocell : ∀ y ∈ sc.names, y.2 ≠ .cell
  locs : ∀ y ∈ sc.names, y.2 = .local → sc.names.lookup y.1 = some .local
  free : ∀ n, (n, NameKind.free) ∈ sc.names → n ∈ capt ∧ onames.lookup n = some .cell
  xl : sc.names.lookup x = some .local
  xn : nmOk x = true
  xc : x ∉ capt
  cap : ∀ y ∈ capt, nmOk y = true ∧ sc.names.lookup y = some .free
  glo : ∀ y ∈ gl, nmOk y = true ∧ sc.names.lookup y = some .globalImplicit
theorem compOk.ok {onames : List (Str × NameKind)} {sc : Scope} {x : Str} {capt gl : List Str} (h : compOk onames sc x capt gl = true) : CompOk onames sc x capt gl := by
  unfold compOk at h
  simp only [Bool.and_eq_true, List.all_eq_true, Bool.or_eq_true, bne_iff_ne, beq_iff_eq, Bool.not_eq_true', List.contains_eq_mem, decide_eq_true_eq, decide_eq_false_iff_not] at h
  obtain ⟨⟨⟨⟨⟨h1, h2⟩, h3⟩, h4⟩, h5⟩, h6⟩ := h
  refine ⟨fun y hy => (h1 y hy).1.1, fun y hy e => ?_, fun n hn => ?_, h2, h3, h4, h5, h6⟩
  · exact ((h1 y hy).1.2).resolve_left fun h => h e
  · exact ((h1 _ hn).2).resolve_left fun h => h rfl

section
variable {C : Cx} {A : Around} {env : Env} {ρ : Loc} {σ : AH} {E : EX} {Q : V → AH → Prop}
theorem HR.own {ad : List Addr} {h : Heap} {o : O} {ob : Obj} {a : Addr} (hr : HR C ad σ h) (hn : h.get? a = some ob) (hG : C.G.get? a = none) (hn' : a ∉ ad) (hs : a ≠ sysModules) (ro : RO C.w.params ad o ob) : HR C (ad ++ [a]) (σ ++ [o]) h := by
  refine ⟨hr.ok, fun b x e => (hr.keep b x e), by simp [hr.len], ?_, ?_, fun a1 ha1 => (List.mem_append.mp ha1).elim (hr.low a1) (fun hm => by rw [List.mem_singleton.mp hm]; exact hs), ?_⟩
  · refine List.nodup_append.mpr ⟨hr.nd, by simp, ?_⟩
    intro a1 ha1 b1 hb1 e
    simp only [List.mem_singleton] at hb1
    subst hb1; subst e; exact hn' ha1
  · intro a1 ha1
    rcases List.mem_append.mp ha1 with ha1 | ha1
    · exact hr.off a1 ha1
    · simp only [List.mem_singleton] at ha1; subst ha1; exact hG
  · intro i x a1 h1 h2
    by_cases hi : i < σ.length
    · rw [List.getElem?_append_left hi] at h1
      rw [List.getElem?_append_left (by rw [hr.len]; exact hi)] at h2
      obtain ⟨ob', h3, h4⟩ := hr.obj i x a1 h1 h2
      exact ⟨ob', h3, h4.mono⟩
    · have hi' : i = σ.length := by
        have := (List.getElem?_eq_some_iff.mp h1).1
        simp at this; lia
      subst hi'
      rw [List.getElem?_append_right (Nat.le_refl _)] at h1
      rw [List.getElem?_append_right (by rw [hr.len]; exact Nat.le_refl _)] at h2
      simp [hr.len] at h1 h2
      subst h1; subst h2
      exact ⟨ob, hn, ro.mono⟩

/-- the tests of a comprehension -/
structure WIf (C : Cx) (A : Around) (env : Env) (r : Bool) (ifs : List Expr) (ρ : Loc) (σ : AH) (Q : Bool → AH → Prop) (E : EX) : Prop where
  run : ∀ ad (s : Shared), HR C ad σ s.heap → ER C env ρ ad s.heap → wpAny (model C.prog C.w) A (forIn ifs r fun c r => if r = true then do let ok ← isTrue c env (eval c env); pure (ForInStep.yield ok) else pure (ForInStep.yield r)) (PB C ad s Q) E s
theorem WIf_nil {r : Bool} {Q : Bool → AH → Prop} (h : Q r σ) : WIf C A env r [] ρ σ Q E := ⟨fun ad s hr er => wpAny_pure ⟨ad, σ, Nx.refl hr, h⟩⟩

theorem WIf_true {c : Expr} {r : List Expr} {Q : Bool → AH → Prop} (h : WB C A env c ρ σ (fun b σ1 => WIf C A env b r ρ σ1 Q E) E) : WIf C A env true (c :: r) ρ σ Q E := by
  refine ⟨?_⟩
  intro ad s hr er
  rw [List.forIn_cons]
  refine wpAny_bind ?_
  rw [if_pos rfl]
  refine wpAny_bind (wpAny_mono (h.run ad s hr er) ?_ fun _ _ x => x)
  rintro b s1 ⟨ad1, σ1, n1, h1⟩
  refine wpAny_pure ?_
  refine wpAny_mono (h1.run ad1 s1 n1.hr (er.next n1)) ?_ fun _ _ x => x
  rintro b2 s2 ⟨ad2, σ2, n2, h2⟩
  exact ⟨ad2, σ2, n1.trans n2, h2⟩
theorem WIf_false {c : Expr} {r : List Expr} {Q : Bool → AH → Prop} (h : WIf C A env false r ρ σ Q E) : WIf C A env false (c :: r) ρ σ Q E := by
  refine ⟨?_⟩
  intro ad s hr er
  rw [List.forIn_cons]
  refine wpAny_bind ?_
  rw [if_neg (by decide)]
  exact wpAny_pure (h.run ad s hr er)

theorem Nx.toWg {l l2 : List (Str × Value)} {ch ad ad' : List Addr} {σ' : AH} {s s' : Shared} (n : Nx (C.wg l2) ch ad s ad' σ' s') (ok : (C.wg l).Ok) : Nx (C.wg l) ch ad s ad' σ' s' :=
  ⟨n.eq, n.pre, n.size, n.same, ⟨ok, n.hr.keep, n.hr.len, n.hr.nd, n.hr.off, n.hr.low, n.hr.obj⟩⟩
/-- a name's meaning in the globals or the built-ins -/
noncomputable def GloIs (C : Cx) (p : Str × Value) : Prop := C.mg p.1 = some p.2 ∨ (C.mg p.1 = none ∧ C.mb p.1 = some p.2)
theorem HR.toWg {l l2 : List (Str × Value)} {ad : List Addr} {h : Heap} (hr : HR (C.wg l) ad σ h) (hl : ∀ p ∈ l2, p ∈ l ∨ GloIs C p) : HR (C.wg l2) ad σ h :=
  ⟨⟨hr.ok.gob, hr.ok.g, hr.ok.b, fun x v hx => (hl _ hx).elim (hr.ok.glo x v) (fun z => z), hr.ok.lim⟩, hr.keep, hr.len, hr.nd, hr.off, hr.low, hr.obj⟩

/-- the env within a comprehension -/
theorem comp_er {l l2 : List (Str × Value)} {onames : List (Str × NameKind)} {sc : Scope} {x : Str} {capt : Loc} {ad : List Addr} {h : Heap} {Cl : Addr} {m : Str → Option Value} {v : V} {u : Value} (hkn : Kn env onames)
    (ok : CompOk onames sc x (capt.map (·.1)) (l2.map (·.1))) (hkind : sc.kind = .function) (hnd : (capt.map (·.1)).Nodup) (hcap : ∀ p ∈ capt, p ∈ ρ) (er : ER (C.wg l) env ρ ad h)
    (hn : h.Ns Cl m) (hu : m x = some u) (rv : RV ad v u) (hG : C.G.get? Cl = none) (had : Cl ∉ ad) (hCl : Cl ∉ fa env) (hlt : Cl < h.objs.size) :
    ER (C.wg l2) (compEnvC sc (clOf env sc.names []) Cl env) ((x, some v) :: capt) ad h ∧ Kn (compEnvC sc (clOf env sc.names []) Cl env) (relab sc.names) := by
  have hcell : ∀ n, (n, NameKind.free) ∈ sc.names → env.kindOf n = some .cell := fun n hn => hkn n _ (ok.free n hn).2
  have hsome : ∀ n, (n, NameKind.free) ∈ sc.names → (env.cells.lookup n).isSome = true := by
    intro n hn
    obtain ⟨p, hp, rfl⟩ := List.mem_map.mp (ok.free n hn).1
    rcases er.kd p.1 p.2 (hcap p hp) with e | ⟨_, e⟩
    · rw [hcell _ hn] at e; cases e
    · exact e
  have hmem := clOf_mem (env := env) (ns := sc.names) (cs := []) hsome (by simp)
  have hlk : ∀ y c, (clOf env sc.names []).lookup y = some c → env.cells.lookup y = some c := fun y c e => hmem (y, c) (mem_of_lookup e)
  have relabE : (relabel sc env).names = relab sc.names := by
    show List.map _ _ = List.map _ _
    refine List.map_congr_left fun p hp => ?_
    obtain ⟨n, k⟩ := p
    by_cases hk : (k == NameKind.free) = true
    · have hk' : k = .free := by simpa using hk
      subst hk'
      simp [hcell n hp, er.kind]
    · simp [hk]
  have kn : Kn (compEnvC sc (clOf env sc.names []) Cl env) (relab sc.names) := by
    intro y k e
    show (relabel sc env).names.lookup y = _
    rw [relabE]; exact e
  have kf : ∀ y ∈ capt.map (·.1), (compEnvC sc (clOf env sc.names []) Cl env).kindOf y = some .cell := fun y hy => kn y _ (relab_lookup (ok.cap y hy).2)
  refine ⟨⟨hkind, er.glob, er.blt, ?_, ?_, ⟨m, hn, ?_⟩, ?_, ?_, ?_, ?_, ?_, ?_, ?_⟩, kn⟩
  · exact List.nodup_cons.mpr ⟨ok.xc, hnd⟩
  · intro y w hy
    rcases List.mem_cons.mp hy with e | hy
    · cases e; exact .inl (kn x _ (relab_lookup ok.xl))
    · have hy' : y ∈ capt.map (·.1) := List.mem_map.mpr ⟨_, hy, rfl⟩
      exact .inr ⟨.inl (kf y hy'), clOf_some (.inl (mem_of_lookup (ok.cap y hy').2))⟩
  · intro y w hy hk
    rcases List.mem_cons.mp hy with e | hy
    · cases e; exact ⟨u, hu, rv⟩
    · rw [kf y (List.mem_map.mpr ⟨_, hy, rfl⟩)] at hk; cases hk
  · intro y c hc
    obtain ⟨o, w, h1, h2, h3⟩ := er.cell y c (hlk y c hc)
    refine ⟨o, w, h1, h2, fun z hz hk => ?_⟩
    rcases List.mem_cons.mp hz with e | hz
    · cases e; exact absurd (kn x _ (relab_lookup ok.xl)) hk
    · refine h3 z (hcap _ hz) ?_
      have := hcell y (mem_of_lookup (ok.cap y (List.mem_map.mpr ⟨_, hz, rfl⟩)).2)
      rw [this]; decide
  · intro y z c h1 h2
    exact er.cinj y z c (hlk _ _ h1) (hlk _ _ h2)
  · intro y c hc e
    refine hCl ?_
    rw [← show c = Cl from e]
    exact mem_cells (hlk y c hc)
  · intro a ha
    rcases List.mem_cons.mp ha with e | ha
    · subst e; exact ⟨hG, had⟩
    · obtain ⟨p, hp, rfl⟩ := List.mem_map.mp ha
      exact er.off _ (mem_cells (hmem p hp))
  · intro a ha
    rcases List.mem_cons.mp ha with e | ha
    · subst e; exact hlt
    · obtain ⟨p, hp, rfl⟩ := List.mem_map.mp ha
      exact er.lt _ (mem_cells (hmem p hp))
  · intro y w hy
    rcases List.mem_cons.mp hy with e | hy
    · cases e; exact ok.xn
    · exact (ok.cap y (List.mem_map.mpr ⟨_, hy, rfl⟩)).1
  · intro y w hy
    have := ok.glo y (List.mem_map.mpr ⟨_, hy, rfl⟩)
    exact ⟨kn y _ (relab_lookup this.2), this.1⟩
end
end Mine

-- part Aw12
set_option autoImplicit false
set_option linter.unusedVariables false
namespace Mine
open PySem PySem.W PyProof.Rows

section
variable {C : Cx} {A : Around} {env : Env} {ρ : Loc} {σ : AH} {E : EX} {Q : V → AH → Prop}
theorem adr_ne {a b : Nat} (h : a < b ∨ b < a) : @Ne Addr a b := by
  intro e
  have e' : (a : Nat) = b := e
  lia
theorem nlt {a b : Addr} (h : a < b) : @LT.lt Nat instLTNat a b := h
theorem Nx.touch {ad ad' : List Addr} {σ' : AH} {s2 s' : Shared} {I : Addr} {h' : Heap} {tk : Nat} (n : Nx C [I] ad s2 ad' σ' s') (hr' : HR C ad' σ' h') (hz : s'.heap.objs.size ≤ h'.objs.size)
    (hk : ∀ b o, b ≠ I → b < s2.heap.objs.size → s'.heap.get? b = some o → h'.get? b = some o) : Nx C [I] ad s2 ad' σ' { s' with heap := h', toks := tk } := by
  obtain ⟨h1, t1, e1⟩ := n.eq
  refine ⟨⟨h', tk, by rw [e1]⟩, n.pre, Nat.le_trans n.size hz, fun b o e hb hc => ?_, hr'⟩
  exact hk b o (by simpa using hc) (Heap.lt_size e) (n.same b o e hb hc)
theorem ER.keep {ad ad' : List Addr} {s : Shared} {h' : Heap} (r : ER C env ρ ad s.heap) (hp : ∃ nw, ad' = ad ++ nw ∧ ∀ a ∈ nw, s.heap.objs.size ≤ a) (keep : ∀ b ∈ fa env, ∀ o, s.heap.get? b = some o → h'.get? b = some o) (hz : s.heap.objs.size ≤ h'.objs.size) : ER C env ρ ad' h' := by
  obtain ⟨nw, rfl, hnw⟩ := hp
  refine ⟨r.kind, r.glob, r.blt, r.nd, r.kd, ?_, ?_, r.cinj, r.cl, ?_, fun b hb => Nat.lt_of_lt_of_le (r.lt b hb) hz, r.nm, r.gk⟩
  · obtain ⟨m, hm, h⟩ := r.m
    refine ⟨m, hm.at' fun o e => keep _ (by simp [fa]) o e, fun x v hx hk => ?_⟩
    obtain ⟨u, h1, h2⟩ := h x v hx hk
    exact ⟨u, h1, h2.mono⟩
  · intro x c hc
    obtain ⟨o, w, h1, h2, h3⟩ := r.cell x c hc
    refine ⟨o, w, keep c (mem_cells hc) o h1, h2, fun v hv hk => ?_⟩
    obtain ⟨u, h4, h5⟩ := h3 v hv hk
    exact ⟨u, h4, h5.mono⟩
  · intro a ha
    refine ⟨(r.off a ha).1, fun hm => ?_⟩
    rcases List.mem_append.mp hm with hm | hm
    · exact (r.off a ha).2 hm
    · exact absurd (r.lt a ha) (Nat.not_lt.mpr (hnw a hm))

theorem comp_core {l l2 : List (Str × Value)} {onames : List (Str × NameKind)} {sc : Scope} {x : Str} {px : Pos} {elt iter : Expr} {ifs : List Expr} {pos : Pos} {capt : Loc} {ad : List Addr} {s2 : Shared} {I : Addr} {n : Nat} {P : Nat → V} {Cd : AH → Prop}
    {St : Nat → Heap → Prop} {RR : Value → Addr → Result → Shared → Prop} {Inv : Nat → List V → AH → Prop}
    (hkn : Kn env onames) (ok : CompOk onames sc x (capt.map (·.1)) (l2.map (·.1))) (hkind : sc.kind = .function) (hnd : (capt.map (·.1)).Nodup) (hcap : ∀ p ∈ capt, p ∈ ρ) (hl2 : ∀ p ∈ l2, p ∈ l ∨ GloIs C p)
    (hr : HR (C.wg l) ad σ s2.heap) (er : ER (C.wg l) env ρ ad s2.heap) (wk : Wk (C.wg l) A ad I n P Cd St) (st0 : St 0 s2.heap) (hI : I ∉ ad) (hIfa : I ∉ fa env) (hIG : C.G.get? I = none) (hsz : n ≤ sizeLine) (inv0 : Inv 0 [] σ)
    (turn : ∀ i acc σ', i < n → Inv i acc σ' → Cd σ' ∧ ∀ cenv, Kn cenv (relab sc.names) → WIf (C.wg l2) A cenv true ifs ((x, some (P i)) :: capt) σ'
      (fun b σ2 => if b = true then WE (C.wg l2) A cenv elt ((x, some (P i)) :: capt) σ2 (fun v σ3 => Inv (i + 1) (acc ++ [v]) σ3) (fun _ _ => False) else Inv (i + 1) acc σ2) (fun _ _ => False))
    (hcd : ∀ acc σ', Inv n acc σ' → Cd σ')
    (hRR : ∀ D Cl ad' σ' vs s' m, s'.heap.Ns Cl m → s2.heap.objs.size ≤ Cl → Cl ∉ ad' → Nx (C.wg l) [I] ad s2 ad' (σ' ++ [.list vs]) s' → RV ad' (.ref σ'.length) (.ref D) → Inv n vs σ' → RR (.ref D) Cl (.ok .next) s') :
    wpAny (model C.prog C.w) A (newList []) (fun acc s3 => wpAny (model C.prog C.w) A (newFunctionEnv sc env.globals (clOf env sc.names []) [] env.qual none .none (some env)) (fun cenv s4 =>
      codeAny (model C.prog C.w) A (.compStart (.ListComp elt [⟨.Name x px, iter, ifs, 0⟩] sc pos) 0 (.ref I) acc { cenv with scope := relabel sc env }) (RR acc cenv.locals) s4) E s3) E s2 := by
  refine wpAny_newObj_type (wpAny_newFunctionEnv ok.nocell (by intro y hy; simp at hy) (fun h1 hns1 hsb1 => ?_) hkind)
  dsimp only at hns1 hsb1 ⊢
  generalize hH2 : s2.heap.push { cls := .type "list", dict := none, data := .seq ([] : List Value).toArray } = H2 at hns1 hsb1 ⊢
  have hC : H2.objs.size = s2.heap.objs.size + 1 := by rw [← hH2, Heap.size_push]
  have hDC : s2.heap.objs.size ≠ H2.objs.size := by lia
  have old : ∀ b o, s2.heap.get? b = some o → h1.get? b = some o := fun b o e => hsb1.extBut b o (adr_ne (.inl (by have := nlt (Heap.lt_size e); lia))) (Heap.get?_push_of_some _ (hH2 ▸ Heap.get?_push_of_some _ e))
  have hacc : h1.PlainList s2.heap.objs.size #[] := ⟨_, hsb1.extBut _ _ hDC (Heap.get?_push_of_some _ (hH2 ▸ Heap.get?_push_size _ rfl))⟩
  have hz1 : s2.heap.objs.size + 2 ≤ h1.objs.size := by
    have := hsb1.1
    rw [Heap.size_push] at this
    lia
  obtain ⟨oI, hoI⟩ := wk.ex _ _ st0
  have hIlt := nlt (Heap.lt_size hoI)
  have fD := hr.fresh (Nat.le_refl s2.heap.objs.size)
  have fC := hr.fresh (a := H2.objs.size) (by lia)
  have hClfa : H2.objs.size ∉ fa env := fun hm => absurd (er.lt _ hm) (Nat.not_lt.mpr (by lia))
  have st1 : St 0 h1 := wk.own _ _ _ st0 ((old I oI hoI).trans hoI.symm)
  have n1 : ∀ t, Nx (C.wg l) [I] ad s2 ad σ { s2 with heap := h1, toks := t } := fun t => ⟨⟨h1, t, rfl⟩, ⟨[], by simp, by simp⟩, by show s2.heap.objs.size ≤ h1.objs.size; lia, fun b o e _ _ => old b o e, hr.keeps old⟩
  have loop : ∀ s3 : Shared, s3 = { s2 with heap := h1, toks := s2.toks + ([] : List (Str × Value)).length } →
      codeAny (model C.prog C.w) A (.compLoop (.ListComp elt [⟨.Name x px, iter, ifs, 0⟩] sc pos) 0 (.ref I) (.ref s2.heap.objs.size) (compEnvC sc (clOf env sc.names []) H2.objs.size env)) (RR (.ref s2.heap.objs.size) H2.objs.size) s3 := by
    rintro s3 rfl
    refine codeAny_compLoop_tests (fun k s' => Ex6 fun i ad' σ' accV accU m' => And7 (k = n - i) (i ≤ n) (Nx (C.wg l) [I] ad s2 ad' σ' s') (s2.heap.objs.size ∉ ad') (H2.objs.size ∉ ad') (I ∉ ad') (And6 (s'.heap.Ns H2.objs.size m') (s'.heap.PlainList s2.heap.objs.size accU) (RVs ad' accV accU.toList) (St i s'.heap) (Inv i accV σ') (accV.length ≤ i))) ?_ n ⟨0, ad, σ, [], #[], _, rfl, Nat.zero_le _, n1 _, fD.2, fC.2, hI, hns1, hacc, .nil, st1, inv0, Nat.le_refl _⟩
    rintro k s' ⟨i, ad', σ', accV, accU, m', rfl, hi, n3, hD', hC', hI', hns', hpl', rvs', st', inv', hlen'⟩
    have neI : ∀ b o, C.G.get? b = some o ∨ b ∈ ad' → b ≠ I := by
      rintro b o (e | e) rfl
      · rw [hIG] at e; cases e
      · exact hI' e
    have neC : ∀ b o, C.G.get? b = some o ∨ b ∈ ad' → b ≠ H2.objs.size := by
      rintro b o (e | e) rfl
      · rw [fC.1] at e; cases e
      · exact hC' e
    have neD : ∀ b o, C.G.get? b = some o ∨ b ∈ ad' → b ≠ s2.heap.objs.size := by
      rintro b o (e | e) rfl
      · rw [fD.1] at e; cases e
      · exact hD' e
    by_cases hlt : i < n
    · obtain ⟨cd, tb⟩ := turn i accV σ' hlt inv'
      refine wk.item i ad' σ' s' _ _ hlt (let ⟨nw, p, _⟩ := n3.pre; ⟨nw, p⟩) n3.hr cd st' fun u h' tk ru st'' hsb => ?_
      refine wpAny_assign_Name (wpAny_storeName_local (lookup_relabel_local ok.xl) (hns'.at' fun o e => hsb.extBut _ o (adr_ne (.inr (by lia))) e) (fun h2 hn2 hs2 => ?_) (by simp [compEnvC, relabel, hkind]))
      have k2 : ∀ b o, b ≠ I → b ≠ H2.objs.size → s'.heap.get? b = some o → h2.get? b = some o := fun b o h1 h2 e => hs2.extBut b o h2 (hsb.extBut b o h1 e)
      have hr4 : HR (C.wg l) ad' σ' h2 := n3.hr.same fun b o hb e => k2 b o (neI b o hb) (neC b o hb) e
      have hz4 : s'.heap.objs.size = h2.objs.size := by
        have a1 := hsb.1
        have a2 := hs2.1
        simp only at a2
        lia
      have er4 : ER (C.wg l) env ρ ad' h2 := er.keep n3.pre (fun b hb o e => k2 b o (fun e' => hIfa (e' ▸ hb)) (fun e' => hClfa (e' ▸ hb)) (n3.same b o e (er.off b hb).2 (by simp; rintro rfl; exact hIfa hb))) (by have := n3.size; lia)
      obtain ⟨erc, kn⟩ := comp_er (l2 := l2) hkn ok hkind hnd hcap er4 hn2 (u := u) (v := P i) (by simp) ru fC.1 hC' hClfa (by rw [← hz4]; exact hns'.lt)
      have st4 : St (i + 1) h2 := wk.own _ _ _ st'' (by
        obtain ⟨oI', hoI'⟩ := wk.ex _ _ st''
        rw [hoI']; exact hs2.extBut _ _ (adr_ne (b := H2.objs.size) (.inl (by lia))) hoI')
      have hpl4 : h2.PlainList s2.heap.objs.size accU := by
        obtain ⟨c, hc⟩ := hpl'
        exact ⟨c, k2 _ _ (adr_ne (.inr (by lia))) hDC hc⟩
      refine wpAny_mono ((tb _ kn).run ad' _ (hr4.toWg hl2) erc) ?_ fun _ _ f => f.elim
      rintro b s5 ⟨ad5, σ5, n5, h5⟩
      have n35 := fun t => (n3.touch (tk := t) hr4 (by lia) (fun b o h1 h2 e => k2 b o h1 (adr_ne (.inl (by have h2' := nlt h2; lia))) e))
      have done5 : ∀ (adN : List Addr) (σN : AH) (sN : Shared) t, Nx (C.wg l2) [] ad' { s' with heap := h2, toks := t } adN σN sN →
          Nx (C.wg l) [I] ad s2 adN σN sN ∧ s2.heap.objs.size ∉ adN ∧ H2.objs.size ∉ adN ∧ I ∉ adN ∧ sN.heap.Ns H2.objs.size (fun z => if z = x then some u else m' z) ∧ sN.heap.PlainList s2.heap.objs.size accU ∧ St (i + 1) sN.heap ∧ ∃ nw, adN = ad' ++ nw := by
        intro adN σN sN t nN
        have nN' := nN.toWg hr.ok
        obtain ⟨nw, p, q⟩ := nN.pre
        have notin : ∀ a, a ∉ ad' → a < h2.objs.size → a ∉ adN := by
          intro a h1 h2 hm
          rw [p] at hm
          rcases List.mem_append.mp hm with hm | hm
          · exact h1 hm
          · exact absurd (q a hm) (Nat.not_le.mpr h2)
        have hs3 := n3.size
        have hz3 : H2.objs.size < h2.objs.size := by rw [← hz4]; exact hns'.lt
        refine ⟨(n35 t).trans (nN'.wider (by simp)), notin _ hD' (Nat.lt_trans (show s2.heap.objs.size < H2.objs.size by lia) hz3), notin _ hC' hz3, notin _ hI' (Nat.lt_trans (Nat.lt_trans hIlt (show s2.heap.objs.size < H2.objs.size by lia)) hz3), hn2.at' fun o e => nN.same _ o e hC' (by simp), ?_, ?_, nw, p⟩
        · obtain ⟨c, hc⟩ := hpl4
          exact ⟨c, nN.same _ _ hc hD' (by simp)⟩
        · obtain ⟨oI', hoI'⟩ := wk.ex _ _ st4
          exact wk.own _ _ _ st4 ((nN.same _ _ hoI' hI' (by simp)).trans hoI'.symm)
      cases b with
      | false =>
        obtain ⟨a1, a2, a3, a4, a5, a6, a7, nw, a8⟩ := done5 ad5 σ5 s5 _ n5
        exact ⟨n - (i + 1), by lia, i + 1, ad5, σ5, accV, accU, _, rfl, hlt, a1, a2, a3, a4, a5, a6, by rw [a8]; exact rvs'.mono, a7, h5, by lia⟩
      | true =>
        have h5' : WE (C.wg l2) A _ elt ((x, some (P i)) :: capt) σ5 (fun v σ3 => Inv (i + 1) (accV ++ [v]) σ3) (fun _ _ => False) := h5
        refine wpAny_mono (h5'.run ad5 s5 n5.hr (erc.next n5)) ?_ fun _ _ f => f.elim
        rintro y s6 ⟨ad6, σ6, v, n6, r6, inv6⟩
        obtain ⟨a1, a2, a3, a4, a5, a6, a7, nw, a8⟩ := done5 ad6 σ6 s6 _ (n5.trans n6)
        refine wpAny_list_append_plain a6 (fun h' hp hs => ?_) (by rw [← Array.length_toList, ← rvs'.length]; lia)
        have hr7 : HR (C.wg l) ad6 σ6 h' := a1.hr.same fun b o hb e => hs.extBut b o (by
          rintro rfl
          rcases hb with e | e
          · have : C.G.get? s2.heap.objs.size = some o := e
            rw [fD.1] at this; cases this
          · exact a2 e) e
        refine ⟨n - (i + 1), by lia, i + 1, ad6, σ6, accV ++ [v], accU.push y, _, rfl, hlt, a1.touch hr7 (Nat.le_of_eq hs.1.symm) (fun b o h1 h2 e => hs.extBut b o (adr_ne (.inl (nlt h2))) e), a2, a3, a4, a5.at' fun o e => hs.extBut _ o (Ne.symm hDC) e, hp, ?_, ?_, inv6, by simp; lia⟩
        · rw [Array.toList_push, a8]
          exact rvs'.mono.append (.cons (a8 ▸ r6) .nil)
        · obtain ⟨oI', hoI'⟩ := wk.ex _ _ a7
          exact wk.own _ _ _ a7 ((hs.extBut _ _ (adr_ne (.inl (by lia))) hoI').trans hoI'.symm)
    · obtain rfl : i = n := by lia
      refine wpAny_sz (wk.done ad' σ' s' _ _ (let ⟨nw, p, _⟩ := n3.pre; ⟨nw, p⟩) n3.hr (hcd _ _ inv') st' fun h' tk hk hz => ?_)
      obtain ⟨c, hc⟩ := hpl'
      have hc' := hk _ _ (adr_ne (.inr (by lia))) hc
      have hr4 : HR (C.wg l) ad' σ' h' := n3.hr.same fun b o hb e => hk b o (neI b o hb) e
      have n4 := n3.touch (tk := tk) hr4 hz fun b o h1 _ e => hk b o h1 e
      have hr5 := HR.own (o := .list accV) hr4 hc' fD.1 hD' (hr.freshLow (Nat.le_refl _)) ⟨_, c, rfl, rvs'⟩
      have hlen : σ'.length = ad'.length := hr4.len.symm
      obtain ⟨nw, p, q⟩ := n3.pre
      refine hRR _ _ (ad' ++ [s2.heap.objs.size]) σ' accV _ m' (hns'.at' fun o e => hk _ o (adr_ne (.inr (by lia))) e) (show (s2.heap.objs.size : Nat) ≤ H2.objs.size by lia) ?_ ⟨n4.eq, ⟨nw ++ [s2.heap.objs.size], by rw [p, List.append_assoc], ?_⟩, n4.size, n4.same, hr5⟩ (RV.last hlen) inv'
      · intro hm
        rcases List.mem_append.mp hm with hm | hm
        · exact hC' hm
        · simp at hm; lia
      · intro a ha
        rcases List.mem_append.mp ha with ha | ha
        · exact q a ha
        · simp at ha; exact Nat.le_of_eq ha.symm
  exact codeAny_compStart_list (loop _ rfl) (wk.self 0 _ _ _ st1 (loop _ rfl))

theorem comp_closed {l l2 : List (Str × Value)} {onames : List (Str × NameKind)} {sc : Scope} {x : Str} {capt : Loc} {ad : List Addr} {h : Heap} (hkn : Kn env onames) (ok : CompOk onames sc x (capt.map (·.1)) (l2.map (·.1))) (hcap : ∀ p ∈ capt, p ∈ ρ) (er : ER (C.wg l) env ρ ad h) :
    closureFor sc env = pure (clOf env sc.names []) := by
  refine closure_of fun n hn => ?_
  obtain ⟨p, hp, rfl⟩ := List.mem_map.mp (ok.free n hn).1
  rcases er.kd p.1 p.2 (hcap p hp) with e | ⟨_, e⟩
  · rw [hkn _ _ (ok.free _ hn).2] at e; cases e
  · exact e
/-- what a comprehension asks -/
noncomputable def CompGo (C : Cx) (A : Around) (l2 : List (Str × Value)) (sc : Scope) (x : Str) (ifs : List Expr) (elt : Expr) (capt : Loc) (K : List V → AH → Prop) (n : Nat) (P : Nat → V) (Cd : AH → Prop) (σ1 : AH) : Prop :=
  n ≤ sizeLine ∧ ∃ Inv : Nat → List V → AH → Prop, Inv 0 [] σ1 ∧ (∀ i acc σ' pv, i < n → P i = pv → Inv i acc σ' → Cd σ' ∧ ∀ cenv, Kn cenv (relab sc.names) → WIf (C.wg l2) A cenv true ifs ((x, some pv) :: capt) σ'
      (fun b σ2 => if b = true then WE (C.wg l2) A cenv elt ((x, some pv) :: capt) σ2 (fun v σ3 => Inv (i + 1) (acc ++ [v]) σ3) (fun _ _ => False) else Inv (i + 1) acc σ2) (fun _ _ => False)) ∧
    ∀ acc σ', Inv n acc σ' → Cd σ' ∧ K acc σ'
theorem WE_ListComp2 {l l2 : List (Str × Value)} {onames : List (Str × NameKind)} {sc : Scope} {x : Str} {px : Pos} {elt iter : Expr} {ifs : List Expr} {pos : Pos} {capt : Loc}
    (hkn : Kn env onames) (hok : compOk onames sc x (capt.map (·.1)) (l2.map (·.1)) = true) (hnd : (capt.map (·.1)).Nodup) (hcap : ∀ p ∈ capt, p ∈ ρ) (hl2 : ∀ p ∈ l2, p ∈ l ∨ GloIs C p)
    (h : WItr (C.wg l) A env iter ρ σ (CompGo C A l2 sc x ifs elt capt (fun acc σ' => Q (.ref σ'.length) (σ' ++ [.list acc]))) E)
    (hkind : sc.kind = .function := by rfl) (hs : isSetE iter = false := by rfl) : WE (C.wg l) A env (.ListComp elt [⟨.Name x px, iter, ifs, 0⟩] sc pos) ρ σ Q E := by
  refine ⟨?_⟩
  intro ad s hr er
  have ok := compOk.ok hok
  rw [eval_ListComp]
  refine wpAny_comprehension_free (use := none) rfl (folded_not hs) (comp_closed hkn ok hcap er) hkind ok.locs (wpAny_mono (h.run ad s hr er) (fun xv s1 h1 => wpAny_mono h1 ?_ fun _ _ e => e) fun _ _ e => e)
  rintro it s2 ⟨ad1, σ1, n, P, Cd, I, St, rfl, wk, st0, hI, hIad, n2, hsz, Inv, inv0, turn, fin⟩
  have er2 := er.next n2
  have hIfa : I ∉ fa env := fun hm => absurd (er.lt I hm) (Nat.not_lt.mpr hI)
  have hIG : C.G.get? I = none := (hr.fresh hI).1
  refine comp_core (C := C) (RR := fun acc Cl => compPost (model C.prog C.w) A E none (PE (C.wg l) ad s Q) acc Cl) hkn ok hkind hnd hcap hl2 n2.hr er2 wk st0 hIad hIfa hIG hsz inv0 (fun i acc σ' hi hv => turn i acc σ' (P i) hi rfl hv) (fun acc σ' hi => (fin acc σ' hi).1) ?_
  intro D Cl ad' σ' vs s' m hn hCl hClad n3 rv inv
  refine ⟨m, hn, fun h' hs' => ?_⟩
  have hClG : C.G.get? Cl = none := (n2.hr.fresh hCl).1
  have hr' : HR (C.wg l) ad' (σ' ++ [.list vs]) h' := n3.hr.same fun b o hb e => hs'.extBut b o (by
    rintro rfl
    rcases hb with e | e
    · have : C.G.get? b = some o := e
      rw [hClG] at this; cases this
    · exact hClad e) e
  have n4 := n3.touch (tk := s'.toks) hr' (Nat.le_of_eq hs'.1.symm) fun b o _ h2 e => hs'.extBut b o (adr_ne (.inl (Nat.lt_of_lt_of_le h2 hCl))) e
  exact ⟨ad', _, _, Nx.drop1 n2 hI n4, rv, (fin vs σ' inv).2⟩
theorem WS_assign_comp2 {l l2 : List (Str × Value)} {onames : List (Str × NameKind)} {sc : Scope} {x y : Str} {px py : Pos} {elt iter : Expr} {ifs : List Expr} {pos spos : Pos} {capt : Loc} {Q : Fl → Loc → AH → Prop}
    (hkn : Kn env onames) (hok : compOk onames sc x (capt.map (·.1)) (l2.map (·.1)) = true) (hnd : (capt.map (·.1)).Nodup) (hcap : ∀ p ∈ capt, p ∈ ρ) (hl2 : ∀ p ∈ l2, p ∈ l ∨ GloIs C p)
    (h : WItr (C.wg l) A env iter ρ σ (CompGo C A l2 sc x ifs elt capt (fun acc σ' => ∃ ρ', Up y (some (.ref σ'.length)) ρ ρ' ∧ Q .next ρ' (σ' ++ [.list acc]))) E)
    (hk : (onames.lookup y == some .local && !(sc.names.any fun p => p.1 == y && (p.2 == .local || p.2 == .cell)) || onames.lookup y == some .cell) = true := by rfl) (hpl : py.line = pos.line := by rfl)
    (hkind : sc.kind = .function := by rfl) (hs : isSetE iter = false := by rfl) : WS (C.wg l) A env (.Assign [.Name y py] (.ListComp elt [⟨.Name x px, iter, ifs, 0⟩] sc pos) spos) ρ σ Q E := by
  refine ⟨?_⟩
  intro ad s hr er
  have ok := compOk.ok hok
  by_cases hy : onames.lookup y = some .cell
  · have hsw : swapsWith (.ListComp elt [⟨.Name x px, iter, ifs, 0⟩] sc pos) (some (.Name y py)) spos.line env = pure false := by
      unfold swapsWith
      simp [hkn y _ hy, show (NameKind.cell == NameKind.local) = false from rfl]
    refine wpAny_Assign_Name (wpAny_mono ((WE_ListComp2 (Q := fun v σ1 => ∃ ρ', Up y (some v) ρ ρ' ∧ Q .next ρ' σ1) hkn hok hnd hcap hl2 h hkind hs).run ad s hr er) ?_ fun _ _ x => x) hsw
    rintro a s1 ⟨ad1, σ1, va, n1, r1, ρ', up, h1⟩
    exact store_name n1.hr (er.next n1) up r1 fun s' n2 e2 => ⟨ad1, σ1, ρ', .next, n1.weak.trans n2, e2, rfl, h1⟩
  · have hk' : onames.lookup y = some .local ∧ (sc.names.any fun p => p.1 == y && (p.2 == .local || p.2 == .cell)) = false := by
      simp only [Bool.or_eq_true, Bool.and_eq_true, beq_iff_eq, Bool.not_eq_true'] at hk
      exact hk.resolve_right hy
    have hsw : swapsWith (.ListComp elt [⟨.Name x px, iter, ifs, 0⟩] sc pos) (some (.Name y py)) spos.line env = pure true := by
      have e1 : env.blockKind = .function := by unfold Env.blockKind; rw [er.kind]; rfl
      have e2 : (Expr.ListComp elt [⟨.Name x px, iter, ifs, 0⟩] sc pos).pos = pos := rfl
      have e3 := hk'.2
      show (pure (env.blockKind == .function && env.kindOf y == some .local && py.line == pos.line && !(sc.names.any fun (n, k) => n == y && (k == .local || k == .cell))) : Sem Bool) = pure true
      rw [e1, hkn y _ hk'.1, hpl]
      have e4 : (sc.names.any fun (n, k) => n == y && (k == .local || k == .cell)) = false := hk'.2
      rw [e4]
      simp
    rw [exec_Assign_Name_used _ _ _ _ hsw]
    refine wpAny_bind (wpAny_standAt (wpAny_bind ?_))
    show wpAny _ A (do let _ ← comprehension (.ListComp elt [⟨.Name x px, iter, ifs, 0⟩] sc pos) sc env _ (newList []) false (eval iter env) (some (assign (.Name y py) env))) _ _ s
    refine wpAny_bind (wpAny_mono (wpAny_comprehension_free (use := some (assign (.Name y py) env)) (Q := fun _ s' => PS (C.wg l) env ad s Q .next s') rfl (folded_not hs) (comp_closed hkn ok hcap er) hkind ok.locs
      (wpAny_mono (h.run ad s hr er) (fun xv s1 h1 => wpAny_mono h1 ?_ fun _ _ e => e) fun _ _ e => e)) (fun _ s' hq => wpAny_pure (wpAny_pure hq)) fun _ _ e => e)
    rintro it s2 ⟨ad1, σ1, n, P, Cd, I, St, rfl, wk, st0, hI, hIad, n2, hsz, Inv, inv0, turn, fin⟩
    have er2 := er.next n2
    have hIfa : I ∉ fa env := fun hm => absurd (er.lt I hm) (Nat.not_lt.mpr hI)
    have hIG : C.G.get? I = none := (hr.fresh hI).1
    refine comp_core (C := C) (RR := fun acc Cl => compPost (model C.prog C.w) A E (some (assign (.Name y py) env)) (fun _ s' => PS (C.wg l) env ad s Q .next s') acc Cl) hkn ok hkind hnd hcap hl2 n2.hr er2 wk st0 hIad hIfa hIG hsz inv0 (fun i acc σ' hi hv => turn i acc σ' (P i) hi rfl hv) (fun acc σ' hi => (fin acc σ' hi).1) ?_
    intro D Cl ad' σ' vs s' m hn hCl hClad n3 rv inv
    have hClG : C.G.get? Cl = none := (n2.hr.fresh hCl).1
    have hClfa : Cl ∉ fa env := fun hm => absurd (er2.lt Cl hm) (Nat.not_lt.mpr hCl)
    have er3 : ER (C.wg l) env ρ ad' s'.heap := er2.keep n3.pre (fun b hb o e => n3.same b o e (er2.off b hb).2 (by simp; rintro rfl; exact hIfa hb)) n3.size
    obtain ⟨ρ', up, hq⟩ := (fin vs σ' inv).2
    show wpAny _ A (assign (.Name y py) env (.ref D)) _ _ _
    refine wpAny_assign_Name (store_name (C := C.wg l) n3.hr er3 up rv fun s4 n4 er4 => ?_)
    refine ⟨m, hn.at' fun o e => n4.same _ o e hClad hClfa, fun h' hs' => ?_⟩
    have keep : ∀ b o, C.G.get? b = some o ∨ b ∈ ad' → s4.heap.get? b = some o → h'.get? b = some o := fun b o hb e => hs'.extBut b o (by
      rintro rfl
      rcases hb with e | e
      · rw [hClG] at e; cases e
      · exact hClad e) e
    have hr' : HR (C.wg l) ad' (σ' ++ [.list vs]) h' := n4.hr.same keep
    have er5 : ER (C.wg l) env ρ' ad' h' := er4.keep (s := s4) ⟨[], by simp, by simp⟩ (fun b hb o e => hs'.extBut b o (fun e' => hClfa (e' ▸ hb)) e) (Nat.le_of_eq hs'.1.symm)
    have n34 : Nx (C.wg l) (I :: fa env) ad1 s2 ad' (σ' ++ [.list vs]) s4 := (n3.wider (by simp)).trans (n4.wider fun b hb => List.mem_cons_of_mem _ hb)
    have n5 : Nx (C.wg l) (I :: fa env) ad1 s2 ad' (σ' ++ [.list vs]) { s4 with heap := h' } := by
      obtain ⟨h1, t1, e1⟩ := n34.eq
      refine ⟨⟨h', t1, by rw [e1]⟩, n34.pre, Nat.le_trans n34.size (Nat.le_of_eq hs'.1.symm), fun b o e hb hc => ?_, hr'⟩
      exact hs'.extBut b o (adr_ne (.inl (Nat.lt_of_lt_of_le (Heap.lt_size e) hCl))) (n34.same b o e hb hc)
    exact ⟨ad', _, ρ', .next, Nx.drop1 n2 hI n5, er5, rfl, hq⟩
end
end Mine

-- part Aw13
set_option autoImplicit false
set_option linter.unusedVariables false
namespace Mine
open PySem PySem.W PyProof.Rows

section
variable {C : Cx} {A : Around} {env : Env} {ρ : Loc} {σ : AH} {E : EX} {Q : V → AH → Prop}
/- reversed lists -/
end
end Mine

-- part Aw14
set_option autoImplicit false
set_option linter.unusedVariables false
namespace Mine
open PySem PySem.W PyProof.Rows

section
variable {C : Cx} {A : Around} {env : Env} {ρ : Loc} {σ : AH} {E : EX} {Q : V → AH → Prop}
theorem Rd.ints {xs : List Int} : RdAll C σ (xs.map V.int) (xs.map PyData.int) := by
  induction xs with
  | nil => exact .nil
  | cons x r ih => exact .cons .int ih
theorem Rd.lst {v : V} {xs : List Int} (o : ObjAt C σ v (.list (xs.map V.int))) : Rd C σ v (.list (xs.map PyData.int)) := .list o Rd.ints
theorem eqv_ints (xs : List Int) : PyData.eqvAll (xs.map PyData.int) (xs.map PyData.int) = true := by
  induction xs with
  | nil => rfl
  | cons x r ih => simp [PyData.eqvAll, PyData.eqv, ih]
theorem canLay_ints (xs : List Int) : PyData.canLayAll0 (xs.map PyData.int) = true := by
  induction xs with
  | nil => rfl
  | cons x r ih => simp [PyData.canLayAll0, PyData.canLay0, ih]
theorem depth_ints (xs : List Int) : PyData.depthAll (xs.map PyData.int) ≤ 1 := by
  induction xs with
  | nil => simp [PyData.depthAll]
  | cons x r ih => simp [PyData.depthAll, PyData.depth]; lia
theorem shaped_ints (xs : List Int) : SeqAt.shaped (.list (xs.map PyData.int)) = true := by
  have := depth_ints xs
  simp [SeqAt.shaped, PyData.canLay0, canLay_ints, PyData.depth]; lia
theorem getD_v (ns : List Int) {i : Nat} (h : i < ns.length) : (ns.map V.int).getD i .none = .int (ns.getD i 0) := by simp [List.getD, h]
end
end Mine

-- part Aw15
set_option autoImplicit false
set_option linter.unusedVariables false
namespace Mine
open PySem PySem.W PyProof.Rows

section
variable {C : Cx} {A : Around} {env : Env} {ρ : Loc} {σ : AH} {E : EX}
theorem WS_while {test : Expr} {body : List Stmt} {pos : Pos} {Q : Fl → Loc → AH → Prop} (Inv : Nat → Loc → AH → Prop) (k : Nat) (h0 : Inv k ρ σ)
    (turn : ∀ k ρ' σ', Inv k ρ' σ' → WB C A env test ρ' σ' (fun b σ1 => if b = true then WSs C A env body ρ' σ1 (LoopPost (fun ρ2 σ2 => ∃ m, m < k ∧ Inv m ρ2 σ2) Q) (ELoop C A env E) else Q .next ρ' σ1) (ELoop C A env E)) :
    WS C A env (.While test body [] pos) ρ σ Q E := by
  refine ⟨?_⟩
  intro ad s hr er
  refine wpAny_While ?_
  refine codeAny_whileLoop (fun k s3 => Ex3 fun ad3 σ3 ρ3 => And3 (Nx C (fa env) ad s ad3 σ3 s3) (ER C env ρ3 ad3 s3.heap) (Inv k ρ3 σ3)) ?_ k ⟨ad, σ, ρ, Nx.refl hr, er, h0⟩
  rintro k s3 ⟨ad3, σ3, ρ3, n3, er3, inv3⟩
  refine wpAny_mono ((turn k ρ3 σ3 inv3).run ad3 s3 n3.hr er3) ?_ fun _ _ x => x
  rintro b s4 ⟨ad4, σ4, n4, h4⟩
  have er4 := er3.next n4
  have n34 := n3.trans n4.weak
  cases b with
  | false =>
    have h4' : Q .next ρ3 σ4 := h4
    exact wpAny_execs_nil ⟨ad4, σ4, ρ3, .next, n34, er4, rfl, h4'⟩
  | true =>
    have h4' : WSs C A env body ρ3 σ4 (LoopPost (fun ρ2 σ2 => ∃ m, m < k ∧ Inv m ρ2 σ2) Q) (ELoop C A env E) := h4
    refine wpAny_mono (h4'.run ad4 s4 n4.hr er4) ?_ fun _ _ x => x
    rintro f s6 ⟨ad6, σ6, ρ6, fl, n6, er6, rf, ⟨hq⟩⟩
    have n36 := n34.trans n6
    cases fl with
    | next => cases rf; obtain ⟨m, hm, hi⟩ := hq; exact ⟨m, hm, ad6, σ6, ρ6, n36, er6, hi⟩
    | cont => cases rf; obtain ⟨m, hm, hi⟩ := hq; exact ⟨m, hm, ad6, σ6, ρ6, n36, er6, hi⟩
    | brk => cases rf; exact ⟨ad6, σ6, ρ6, .next, n36, er6, rfl, hq⟩
    | ret v => obtain ⟨u', rfl, ru'⟩ := rf; exact ⟨ad6, σ6, ρ6, .ret v, n36, er6, ⟨u', rfl, ru'⟩, hq⟩

theorem foldl_rep (items : Array Value) : ∀ (n : Nat) (acc : Array Value), (List.foldl (fun x1 x2 => x1 ++ x2) acc (List.replicate n items)).toList = acc.toList ++ (List.replicate n items.toList).flatten
  | 0, acc => by simp
  | n + 1, acc => by
    rw [List.replicate_succ, List.foldl_cons, foldl_rep items n, List.replicate_succ, List.flatten_cons, Array.toList_append, List.append_assoc]
theorem RVs.rep {ad : List Addr} {v : List V} {x : List Value} (h : RVs ad v x) : ∀ n : Nat, RVs ad (List.replicate n v).flatten (List.replicate n x).flatten
  | 0 => .nil
  | n + 1 => by rw [List.replicate_succ, List.replicate_succ, List.flatten_cons, List.flatten_cons]; exact h.append (h.rep n)
theorem mul_li {j : Nat} {xs : List V} {x : Int} {Q : V → AH → Prop} (b : σ[j]? = some (.list xs)) (hlo : -(2 ^ 63 : Int) ≤ x) (hhi : x < 2 ^ 63) (hsz : xs.length * x.toNat ≤ 2 ^ 24)
    (h : Q (.ref σ.length) (σ ++ [.list (List.replicate x.toNat xs).flatten])) : WOp2 C A (binaryOp .Mult) (.ref j) (.int x) σ Q E := by
  refine ⟨?_⟩
  rintro ad s y z hr ⟨a, ha, rfl⟩ ⟨u, rfl⟩
  obtain ⟨ob, h1, vs, n, e2, rvs⟩ := hr.obj j _ a b ha
  subst e2
  have hlen : vs.size = xs.length := by have := rvs.length; simp at this; lia
  rw [← hlen] at hsz
  refine wpAny_binaryOp_repeat_ref (T := "list") (U := "int") (by decide) ⟨_, h1, rfl⟩ (fun s' => typeIs_int s' x u) noFill_list_mul F.fills_int_mul F.slot_int_rmul repeat_list F.slot_int_index.lookup
    (call_meets F.slot_int_rmul (typeIs_int s x u) F.entry_int_rmul (F.args_int_rmul_2 _ _) (int___rmul___int_list x u a vs n)
      ⟨h1, rfl, ⟨_, h1, rfl⟩, call_meets F.slot_list_mul ⟨_, h1, rfl⟩ F.entry_list_mul (F.args_list_mul_2 _ _)
        (AutoListH.list___mul___list_int_3 a vs n x u (by simp [Builtin.List.listFitsIndex]; lia) (by lia) (by simp [Builtin.List.listTooLong, sizeLine]; lia))
        ⟨h1, ?_⟩⟩)
  have ro : RVs ad (List.replicate x.toNat xs).flatten (List.foldl (fun x1 x2 => x1 ++ x2) #[] (List.replicate (if vs.isEmpty = true then 0 else x.toNat) vs)).toList := by
    rw [foldl_rep]
    by_cases he : vs.isEmpty = true
    · have hx : xs = [] := by
        have : vs.size = 0 := by simpa [Array.isEmpty] using he
        exact List.eq_nil_of_length_eq_zero (by lia)
      rw [if_pos he, hx]
      simp
      exact .nil
    · rw [if_neg he]
      exact rvs.rep _
  exact ⟨_, _, .ref σ.length, Nx.alloc hr (o := .list (List.replicate x.toNat xs).flatten) ⟨_, 0, rfl, ro⟩, RV.last hr.len.symm, h⟩
theorem rep_one {α : Type} (x : α) : ∀ n : Nat, (List.replicate n [x]).flatten = List.replicate n x
  | 0 => rfl
  | n + 1 => by rw [List.replicate_succ, List.flatten_cons, rep_one x n, List.replicate_succ]; rfl
end
end Mine

-- part Aw16
set_option autoImplicit false
set_option linter.unusedVariables false
namespace Mine
open PySem PySem.W PyProof.Rows

section
variable {C : Cx} {A : Around} {env : Env} {ρ : Loc} {σ : AH} {E : EX}
theorem WE.conseq {e : Expr} {Q Q' : V → AH → Prop} (h : WE C A env e ρ σ Q E) (hq : ∀ v σ1, Q v σ1 → Q' v σ1) : WE C A env e ρ σ Q' E := by
  refine ⟨?_⟩
  intro ad s hr er
  refine wpAny_mono (h.run ad s hr er) ?_ fun _ _ x => x
  rintro u s1 ⟨ad1, σ1, v, n1, r1, h1⟩
  exact ⟨ad1, σ1, v, n1, r1, hq _ _ h1⟩
/-- a comprehension of ints that makes nothing else -/
theorem CompGo_ints {l2 : List (Str × Value)} {sc : Scope} {x : Str} {elt : Expr} {capt : Loc} {K : List V → AH → Prop} {n : Nat} {P : Nat → V} {Cd : AH → Prop} {σ1 : AH} (f : Nat → Int) (hz : n ≤ sizeLine) (hcd : Cd σ1)
    (h : ∀ i pv, i < n → P i = pv → ∀ cenv, Kn cenv (relab sc.names) → WE (C.wg l2) A cenv elt ((x, some pv) :: capt) σ1 (fun v σ3 => v = .int (f i) ∧ σ3 = σ1) (fun _ _ => False))
    (hk : K (((List.range n).map f).map V.int) σ1) : CompGo C A l2 sc x [] elt capt K n P Cd σ1 := by
  refine ⟨hz, fun i acc σ' => σ' = σ1 ∧ acc = ((List.range i).map f).map V.int, ⟨rfl, rfl⟩, ?_, ?_⟩
  · rintro i acc σ' pv hi hp ⟨rfl, rfl⟩
    refine ⟨hcd, fun cenv hc => WIf_nil ?_⟩
    rw [if_pos rfl]
    refine (h i pv hi hp cenv hc).conseq ?_
    rintro v σ3 ⟨rfl, rfl⟩
    refine ⟨rfl, ?_⟩
    rw [List.range_succ]; simp
  · rintro acc σ' ⟨rfl, rfl⟩
    exact ⟨hcd, hk⟩
end
end Mine

-- part Aw17
set_option autoImplicit false
set_option linter.unusedVariables false
namespace Mine
open PySem PySem.W PyProof.Rows

section
variable {C : Cx} {A : Around} {env : Env} {ρ : Loc} {σ : AH} {E : EX}
theorem ObjAt.up {J : AH} {v : V} {o : O} (h : ObjAt C σ v o) : ObjAt C (σ ++ J) v o := by
  cases v with
  | ref j =>
    have h : σ[j]? = some o := h
    show (σ ++ J)[j]? = some o
    rw [List.getElem?_append_left (List.getElem?_eq_some_iff.mp h).1]; exact h
  | k x => cases x <;> exact h
  | _ => exact h.elim
end
end Mine

-- part Aw18
set_option autoImplicit false
set_option linter.unusedVariables false
namespace Mine
open PySem PySem.W PyProof.Rows

/- dicts whose keys are strs -/
noncomputable def putNs (k : Str) (v : V) : List (Str × V) → List (Str × V)
  | [] => [(k, v)]
  | (x, u) :: r => if x = k then (x, v) :: r else (x, u) :: putNs k v r
noncomputable def putEs (name : Str) (hs : Int) (key v : Value) : List DictEntry → List DictEntry
  | [] => [⟨hs, key, v⟩]
  | e :: r => if e.key.isStr name = true then { e with val := v } :: r else e :: putEs name hs key v r
theorem REs.length {P : Params} {ad : List Addr} {es : List (Str × V)} {ds : List DictEntry} (h : REs P ad es ds) : es.length = ds.length := by
  induction h with
  | nil => rfl
  | cons _ _ ih => simp [ih]
theorem putNs_len {k : Str} {v : V} : ∀ {es : List (Str × V)}, (putNs k v es).length ≤ es.length + 1
  | [] => by simp [putNs]
  | (x, u) :: r => by
    have := putNs_len (k := k) (v := v) (es := r)
    unfold putNs
    split <;> simp <;> lia
theorem REs.put {P : Params} {ad : List Addr} {es : List (Str × V)} {ds : List DictEntry} {k : Str} {v : V} {t : Tok} {x : Value} (h : REs P ad es ds) (rv : RV ad v x) : REs P ad (putNs k v es) (putEs k (PyData.keyHash P k) (.str k t) x ds) := by
  induction h with
  | nil => exact .cons rv .nil
  | @cons k' v' t' x' es ds r h' ih =>
    unfold putNs putEs
    by_cases hk : k' = k
    · subst hk
      rw [if_pos rfl, if_pos (by show (k' == k') = true; simp)]
      exact .cons rv h'
    · rw [if_neg hk, if_neg (by show ¬ (k' == k) = true; simp [hk])]
      exact .cons r ih
theorem findIdx_put (name : Str) (hs : Int) (key v : Value) : ∀ ds : List DictEntry, (match ds.findIdx? (fun e => e.key.isStr name) with | some i => ds.modify i (fun e => { e with val := v }) | none => ds ++ [⟨hs, key, v⟩]) = putEs name hs key v ds
  | [] => rfl
  | e :: r => by
    have ih := findIdx_put name hs key v r
    rw [List.findIdx?_cons]
    unfold putEs
    cases hb : e.key.isStr name with
    | true => simp
    | false =>
      cases hi : r.findIdx? (fun e => e.key.isStr name) with
      | none => rw [hi] at ih; simp at ih ⊢; exact ih
      | some i => rw [hi] at ih; simp at ih ⊢; exact ih
theorem putName_at {c : Value} {d : Option Addr} {es : Array DictEntry} {n : Nat} {sl : Array (Option Value)} {name : Str} {hs : Int} {key v : Value} :
    ∃ es' n', Obj.putName name hs key v ⟨c, d, .dict es n, sl⟩ = ⟨c, d, .dict es' n', sl⟩ ∧ es'.toList = putEs name hs key v es.toList := by
  have e := findIdx_put name hs key v es.toList
  have hi : es.findIdx? (fun e => e.key.isStr name) = es.toList.findIdx? (fun e => e.key.isStr name) := by obtain ⟨l⟩ := es; simp
  rw [Obj.putName_eq]
  unfold Obj.putNameByArray
  cases h : es.findIdx? (fun e => e.key.isStr name) with
  | some i =>
    rw [← hi, h] at e
    exact ⟨_, _, by simp only [h]; rfl, by rw [← e]; obtain ⟨l⟩ := es; simp⟩
  | none =>
    rw [← hi, h] at e
    exact ⟨_, _, by simp only [h]; rfl, by rw [← e]; obtain ⟨l⟩ := es; simp⟩
theorem REs.look {P : Params} {ad : List Addr} {es : List (Str × V)} {ds : List DictEntry} (h : REs P ad es ds) (k : Str) :
    (∀ v, es.lookup k = some v → ∃ e, ds.find? (fun e => e.key.isStr k) = some e ∧ RV ad v e.val) ∧ (es.lookup k = none → ds.find? (fun e => e.key.isStr k) = none) ∧ ds.any (·.refKey) = false := by
  induction h with
  | nil => exact ⟨by simp, by simp, rfl⟩
  | @cons k' v' t' x' es ds r h' ih =>
    obtain ⟨i1, i2, i3⟩ := ih
    have hb : (Value.isStr (.str k' t') k) = (k' == k) := rfl
    by_cases hk : k = k'
    · subst hk
      refine ⟨?_, ?_, ?_⟩
      · intro v hv
        rw [List.lookup_cons, beq_self_eq_true] at hv
        cases hv
        exact ⟨_, by rw [List.find?_cons]; show (match (Value.isStr (.str k t') k) with | true => _ | false => _) = _; rw [hb, beq_self_eq_true], r⟩
      · intro hv
        rw [List.lookup_cons, beq_self_eq_true] at hv
        cases hv
      · rw [List.any_cons, i3]; rfl
    · have e1 : (k == k') = false := by simp [hk]
      have e2 : (k' == k) = false := by simp [Ne.symm hk]
      refine ⟨?_, ?_, ?_⟩
      · intro v hv
        rw [List.lookup_cons, e1] at hv
        obtain ⟨e, h1, h2⟩ := i1 v hv
        exact ⟨e, by rw [List.find?_cons]; show (match (Value.isStr (.str k' t') k) with | true => _ | false => _) = _; rw [hb, e2]; exact h1, h2⟩
      · intro hv
        rw [List.lookup_cons, e1] at hv
        rw [List.find?_cons]; show (match (Value.isStr (.str k' t') k) with | true => _ | false => _) = _; rw [hb, e2]; exact i2 hv
      · rw [List.any_cons, i3]; rfl
theorem lookIn_some {P : Params} {ad : List Addr} {es : List (Str × V)} {ds : Array DictEntry} {c : Value} {d : Option Addr} {n : Nat} {sl : Array (Option Value)} {k : Str} {v : V} (h : REs P ad es ds.toList) (hv : es.lookup k = some v) :
    ∃ x, lookIn k ⟨c, d, .dict ds n, sl⟩ = some (some x) ∧ RV ad v x := by
  obtain ⟨e, he, re⟩ := (h.look k).1 v hv
  exact ⟨e.val, by unfold lookIn; simp only [he], re⟩
theorem lookIn_none {P : Params} {ad : List Addr} {es : List (Str × V)} {ds : Array DictEntry} {c : Value} {d : Option Addr} {n : Nat} {sl : Array (Option Value)} {k : Str} (h : REs P ad es ds.toList) (hv : es.lookup k = none) :
    lookIn k ⟨c, d, .dict ds n, sl⟩ = some none := by
  obtain ⟨_, h2, h3⟩ := h.look k
  unfold lookIn
  simp only [h2 hv]
  rw [if_neg (by rw [h3]; decide)]

/- classes -/
structure ClsOk (K : Frag) (Cl : Addr) : Prop where
  makes : makesIn K Cl = true
  ga : findIn K (.ref Cl) "__getattribute__" = some (some (.builtin "object.__getattribute__"))
  gx : findIn K (.ref Cl) "__getattr__" = some none
  sa : findIn K (.ref Cl) "__setattr__" = some (some (.builtin "object.__setattr__"))
  po : plainOver K Cl = true
  hd : (clsIn K Cl).any (·.hasDict) = true
theorem findObj_own {K : Frag} {Cl : Addr} {od : Obj} {name : Str} {x : Value} (hc : (clsIn K Cl).any (·.hasDict) = true) (hn : findIn K (.ref Cl) name = some none) (hl : lookIn name od = some (some x)) : findObj K Cl (some od) name = some (.value x) := by
  obtain ⟨cd, h1, h2⟩ := any_some hc
  unfold findObj PySem.W.ownOf
  rw [h1, hn]
  simp [h2, hl]
noncomputable def plainV : V → Bool
  | .k _ => false
  | _ => true
theorem handed_of {ad : List Addr} {v : V} {x : Value} (h : RV ad v x) (hp : plainV v = true) : handedIn x = true := by
  cases v with
  | none => cases h; rfl
  | bool b => cases h; rfl
  | int i => obtain ⟨t, rfl⟩ := h; rfl
  | str s => obtain ⟨t, rfl⟩ := h; rfl
  | bytes b => obtain ⟨t, rfl⟩ := h; rfl
  | ref i => obtain ⟨a, _, rfl⟩ := h; rfl
  | k v => cases hp

section
variable {C : Cx} {A : Around} {env : Env} {ρ : Loc} {σ : AH} {E : EX} {Q : V → AH → Prop}
theorem HR.inst {ad : List Addr} {h : Heap} {i d : Nat} {es : List (Str × V)} {Cl : Addr} {a : Addr} (hr : HR C ad σ h) (b : σ[i]? = some (.inst Cl d)) (bd : σ[d]? = some (.ns es)) (ha : ad[i]? = some a) :
    ∃ dA ds n, ad[d]? = some dA ∧ h.get? dA = some ⟨.type "dict", none, .dict ds n, #[]⟩ ∧ REs C.w.params ad es ds.toList ∧ PySem.W.InstAt h a ⟨.ref Cl, some dA, .plain, #[]⟩ Cl (some ⟨.type "dict", none, .dict ds n, #[]⟩) := by
  obtain ⟨ob, h1, dA, h2, rfl⟩ := hr.obj i _ a b ha
  obtain ⟨od, h3, ds, n, rfl, h4⟩ := hr.obj d _ dA bd h2
  exact ⟨dA, ds, n, h2, h3, h4, ⟨h1, rfl, rfl, h3⟩⟩

/- attributes -/
structure WAt (C : Cx) (A : Around) (v : V) (name : Str) (σ : AH) (Q : V → AH → Prop) (E : EX) : Prop where
  run : ∀ ad s x, HR C ad σ s.heap → RV ad v x → wpAny (model C.prog C.w) A (getAttr x name true) (PE C ad s Q) E s
theorem WE_attr {value : Expr} {attr : Str} {pos : Pos} (h : WE C A env value ρ σ (fun v σ1 => WAt C A v attr σ1 Q E) E) (hv : plainBase value = true := by rfl) : WE C A env (.Attribute value attr pos) ρ σ Q E := by
  refine ⟨?_⟩
  intro ad s hr er
  have e1 : attributeBase value attr env (eval value env) = eval value env := by cases value <;> first | rfl | cases hv
  refine Attribute_any_ (wpAny_mono (h.run ad s hr er) ?_ fun _ _ x => x) (by rw [arm_eval_Attribute, e1])
  rintro u s1 ⟨ad1, σ1, v, n1, r1, h1⟩
  exact wpAny_mono (h1.run ad1 s1 u n1.hr r1) (fun u s' p => PE.trans n1 p) fun _ _ x => x
theorem at_inst {K : Frag} {Cl : Addr} {i d : Nat} {es : List (Str × V)} {name : Str} {v : V} (X : K.In C.G) (ok : ClsOk K Cl) (hn : findIn K (.ref Cl) name = some none) (b : σ[i]? = some (.inst Cl d)) (bd : σ[d]? = some (.ns es))
    (hv : es.lookup name = some v) (hp : plainV v = true) (h : Q v σ) : WAt C A (.ref i) name σ Q E := by
  refine ⟨?_⟩
  rintro ad s x hr ⟨a, ha, rfl⟩
  obtain ⟨dA, ds, n, h2, h3, h4, I⟩ := hr.inst b bd ha
  obtain ⟨x, hx, rx⟩ := lookIn_some (c := .type "dict") (d := none) (n := n) (sl := #[]) h4 hv
  exact get_value (X.keeps hr.keep) I ok.ga (findObj_own ok.hd hn hx) (handed_of rx hp) (PE.tok _ hr rx h)
theorem WM_inst {K : Frag} {Cl : Addr} {i d : Nat} {es : List (Str × V)} {name : Str} {f : Addr} {KK : Value → List V → AH → Prop} (X : K.In C.G) (ok : ClsOk K Cl) (hf : findIn K (.ref Cl) name = some (some (.ref f))) (ht : typeIn K (.ref f) = some (.type "function"))
    (b : σ[i]? = some (.inst Cl d)) (bd : σ[d]? = some (.ns es)) (hs : es.lookup name = none) (h : KK (.ref f) [.ref i] σ) : WM C A (.ref i) name σ KK E := by
  refine ⟨?_⟩
  rintro ad s x pl hr ⟨a, ha, rfl⟩
  obtain ⟨dA, ds, n, h2, h3, h4, I⟩ := hr.inst b bd ha
  have hx := lookIn_none (c := .type "dict") (d := none) (n := n) (sl := #[]) h4 hs
  refine method_fn (X.keeps hr.keep) I ok.ga ok.gx hf ht (by unfold shadowIn; simp only [hx]; rfl) ⟨ad, σ, [.ref i], Nx.refl hr, .cons ⟨a, ha, rfl⟩ .nil, h⟩

/- stores to attributes -/
structure WSt (C : Cx) (A : Around) (v : V) (name : Str) (x : V) (σ : AH) (Q : AH → Prop) (E : EX) : Prop where
  run : ∀ ad s vx xx, HR C ad σ s.heap → RV ad v vx → RV ad x xx → wpAny (model C.prog C.w) A (setAttr vx name xx) (fun _ s' => Ex2 fun ad' σ' => (Nx C [] ad s ad' σ' s') ∧ (Q σ')) E s
theorem WS_setattr {o e : Expr} {attr : Str} {p pos : Pos} {Q : Fl → Loc → AH → Prop} (h : WE C A env e ρ σ (fun x σ1 => WE C A env o ρ σ1 (fun v σ2 => WSt C A v attr x σ2 (fun σ3 => Q .next ρ σ3) E) E) E)
    (hs : isCompE e = false := by rfl) : WS C A env (.Assign [.Attribute o attr p] e pos) ρ σ Q E := by
  refine ⟨?_⟩
  intro ad s hr er
  refine plainObj_wpAny_Assign_Attribute (wpAny_mono (h.run ad s hr er) ?_ fun _ _ x => x) (swaps_not hs)
  rintro x s1 ⟨ad1, σ1, vx, n1, r1, h1⟩
  refine wpAny_mono (h1.run ad1 s1 n1.hr (er.next n1)) ?_ fun _ _ x => x
  rintro ov s2 ⟨ad2, σ2, vo, n2, r2, h2⟩
  refine wpAny_mono (h2.run ad2 s2 ov x n2.hr r2 (n2.rv r1)) ?_ fun _ _ x => x
  rintro _ s3 ⟨ad3, σ3, n3, h3⟩
  exact PS.ofE er (n1.trans (n2.trans n3)) (fl := .next) rfl h3
theorem set_inst {K : Frag} {Cl : Addr} {i d : Nat} {es : List (Str × V)} {name : Str} {x : V} {Q : AH → Prop} (X : K.In C.G) (ok : ClsOk K Cl) (ht : takerIn K Cl name = some none) (b : σ[i]? = some (.inst Cl d)) (bd : σ[d]? = some (.ns es))
    (hz : es.length ≤ sizeLine) (h : Q (σ.set d (.ns (putNs name x es)))) : WSt C A (.ref i) name x σ Q E := by
  refine ⟨?_⟩
  rintro ad s vx xx hr ⟨a, ha, rfl⟩ rx
  obtain ⟨dA, ds, n, h2, h3, h4, I⟩ := hr.inst b bd ha
  have X' := X.keeps hr.keep
  refine set_plain X' I ok.sa ?_
  refine osa_open (s := { s with toks := s.toks + 1 }) X' I ok.po ht fun bb => ?_
  obtain ⟨cd, hc, hd'⟩ := any_some ok.hd
  obtain ⟨ds', n', e', hl'⟩ := putName_at (c := .type "dict") (d := none) (es := ds) (n := n) (sl := #[]) (name := name) (hs := PyData.keyHash C.w.params name) (key := .str name (s.toks + 1)) (v := xx)
  refine wpAny_bind (wpAny_pure (wpAny_bind (wpAny_bind (wpAny_loadPart I.at_ (wpAny_bind (Looks.here (s := { s with toks := s.toks + 1 }) (looks_clsIn X' hc) ?_))))))
  rw [hd']
  refine wpAny_pure (a := some dA) (wpAny_bind (wpAny_pure (wpAny_bind ?_)))
  unfold nsSet
  refine wpAny_bind (wpAny_bind (wpAny_askSetting (wpAny_pure (wpAny_bind (wpAny_mkText (wpAny_bind (wpAny_loadPart h3 ?_)))))))
  dsimp only
  have c0 : (!ds.any (·.key.isStr name) && ds.any (·.refKey)) = false := by
    rw [← Array.any_toList, ← Array.any_toList, (h4.look name).2.2, Bool.and_false]
  rw [aRefKeyMayBeTheName_at, c0]
  refine wpAny_updatePart h3 ?_
  have D' := Heap.get?_update_self (Obj.putName name (PyData.keyHash C.w.params name) (.str name (s.toks + 1)) xx) h3 (by rw [e']; rfl)
  rw [e'] at D'
  have hsz : ds'.size ≤ sizeLine + 1 := by
    have r1 := (h4.put (k := name) (t := s.toks + 1) rx).length
    rw [← hl'] at r1
    have e3 : ds'.toList.length = ds'.size := Array.length_toList
    have := putNs_len (k := name) (v := x) (es := es)
    lia
  refine wpAny_bind (wpAny_lookBehind D' (pastItsLine_dict hsz) ?_)
  exact wpAny_pure ⟨ad, _, Nx.set (o := .ns (putNs name x es)) hr h2 (Heap.SameBut.update ..) D' ⟨ds', n', rfl, by rw [hl']; exact h4.put rx⟩, h⟩

/- a class called -/
theorem WC_new {K : Frag} {Cl fI : Addr} {vs : List V} (X : K.In C.G) (ok : ClsOk K Cl) (hi : findIn K (.ref Cl) "__init__" = some (some (.ref fI))) (hf : typeIn K (.ref fI) = some (.type "function"))
    (h : ∀ xs, WCc C (A.under (.builtin "type.__call__" ⟨.ref Cl :: xs, []⟩)) (.ref fI) (.ref (σ.length + 1) :: vs) (σ ++ [.ns []] ++ [.inst Cl σ.length]) (fun v σ' => v = .none ∧ Q (.ref (σ.length + 1)) σ') E) : WC C A (.ref Cl) vs σ Q E := by
  refine ⟨?_⟩
  rintro ad ⟨hh, g, dr, t, os⟩ xs hr rv
  have X' := X.keeps hr.keep
  refine wpAny_call (make_core (makes_of X' ok.makes) (looks_findIn X' hi) (fun self => bind_fn X' self hf) (.inl rfl) ?_)
  have n1 := Nx.alloc (s := ⟨hh, g, dr, t, os⟩) (o := .ns []) (ob := emptyDict) hr ⟨#[], 0, rfl, .nil⟩
  have n2 := Nx.alloc (o := .inst Cl σ.length) (ob := instObj Cl hh.objs.size) n1.hr ⟨hh.objs.size, by rw [← hr.len]; simp, rfl⟩
  have n12 := n1.trans n2
  have hsz : (hh.push emptyDict).objs.size = hh.objs.size + 1 := Heap.size_push ..
  have rx : RV (ad ++ [hh.objs.size] ++ [hh.objs.size + 1]) (.ref (σ.length + 1)) (.ref (hh.objs.size + 1)) := ⟨_, by rw [← hr.len]; simp, rfl⟩
  have e2 : (ad ++ [hh.objs.size] ++ [(hh.push emptyDict).objs.size]) = ad ++ [hh.objs.size] ++ [hh.objs.size + 1] := by rw [hsz]
  simp only [hsz] at n12 n2
  refine codeAny_mono ((h _).run _ _ _ n2.hr (.cons rx (n12.rvs rv))) fun r s' z => ?_
  rcases r with e | (v | _ | _ | _) <;> first | exact z | exact z.elim | skip
  obtain ⟨ad', σ', v', n3, r3, rfl, hq⟩ := z
  cases r3
  exact ⟨rfl, ad', σ', _, n12.trans n3, n3.rv rx, hq⟩
end
end Mine

-- part Aw19
set_option autoImplicit false
set_option linter.unusedVariables false
namespace Mine
open PySem PySem.W PyProof.Rows

theorem RVs.set {ad : List Addr} {xs : List V} {vs : List Value} {x : V} {u : Value} (h : RVs ad xs vs) (r : RV ad x u) : ∀ i : Nat, RVs ad (xs.set i x) (vs.set i u) := by
  induction h with
  | nil => intro i; exact .nil
  | cons a h' ih =>
    intro i
    cases i with
    | zero => exact .cons r h'
    | succ i => exact .cons a (ih i)
section
variable {prog : Program} {w : World} {A : Around} {E : Value → Shared → Prop} {s : Shared}
theorem setItem_plain {l : Addr} {items : Array Value} {n : Nat} {k : Int} {t : Tok} {v : Value} {Q : Unit → Shared → Prop} (ho : s.heap.get? l = some ⟨.type "list", none, .seq items n, #[]⟩) (h0 : 0 ≤ k) (hfit : k < 2 ^ 63) (hn : k < items.size)
    (hQ : ∀ h' n', h'.get? l = some ⟨.type "list", none, .seq (items.setIfInBounds k.toNat v) n', #[]⟩ → Heap.SameBut l s.heap h' → Q () { s with heap := h' }) :
    wpAny (model prog w) A (setItem (.ref l) (.int k t) v) Q E s := by
  have hl : s.heap.IsList l items := ⟨_, ho, rfl, n, rfl⟩
  have hd : (⟨.type "list", none, .seq items n, #[]⟩ : Obj).data = .seq items n := rfl
  unfold setItem
  try with_reducible refine wpAny_holding ?_
  first | refine wpAny_bind (wpAny_pure ?_) | skip
  refine wpAny_bind (wpAny_sequenceKey hl.typeIs (by decide) ?_)
  refine wpAny_bind (wpAny_callSpecial?_slot (name := Str.ofString "__setitem__") hl.typeIs PySem.slot_list_setitem
    (wpAny_call_entry PySem.slot_list_setitem hl.typeIs PySem.entry_list_setitem ?_ (PySem.args_list_setitem _ _ _)))
  show wpAny _ _ (Builtin.List.listSubscript? (.int k t) >>= _) _ _ s
  refine wpAny_bind (wpAny_listSubscript_int (fitsIndex_of h0 hfit) ?_)
  clear hfit
  obtain ⟨j, rfl⟩ := Int.eq_ofNat_of_zero_le h0
  have hj : j < items.size := by lia
  have hx' : items[j]? = some items[j] := Array.getElem?_eq_getElem hj
  show wpAny _ _ ((seqItemAt l j >>= fun r => pure (r.map (j, ·))) >>= _) _ _ s
  refine wpAny_bind (wpAny_bind (wpAny_seqItemAt ho hd (wpAny_pure ?_)))
  rw [hx']
  show wpAny _ _ (setSeqItemAt l j v >>= _) _ _ s
  obtain ⟨n', hd'⟩ : ∃ n', Obj.mapSeq (·.setIfInBounds j v) ⟨.type "list", none, .seq items n, #[]⟩ = ⟨.type "list", none, .seq (items.setIfInBounds j v) n', #[]⟩ := ⟨_, rfl⟩
  have hfin := Heap.get?_update_self (Obj.mapSeq (·.setIfInBounds j v)) ho (by rw [hd']; rfl)
  rw [hd'] at hfin
  refine wpAny_bind (wpAny_setSeqItemAt ho hd ?_)
  first
    | exact wpAny_bind (wpAny_pure (wpAny_pure ⟨.none, rfl, wpAny_pure (hQ _ n' hfin (Heap.SameBut.update ..))⟩))
    | exact wpAny_pure ⟨.none, rfl, wpAny_pure (hQ _ n' hfin (Heap.SameBut.update ..))⟩
end

/- dicts -/
section
variable {C : Cx} {A : Around} {env : Env} {ρ : Loc} {σ : AH} {E : EX} {Q : V → AH → Prop}
/- stores to items -/
structure WSi (C : Cx) (A : Around) (o i x : V) (σ : AH) (Q : AH → Prop) (E : EX) : Prop where
  run : ∀ ad s vo vi vx, HR C ad σ s.heap → RV ad o vo → RV ad i vi → RV ad x vx → wpAny (model C.prog C.w) A (setItem vo vi vx) (fun _ s' => Ex2 fun ad' σ' => (Nx C [] ad s ad' σ' s') ∧ (Q σ')) E s
theorem WS_setitem {o i e : Expr} {p pos : Pos} {Q : Fl → Loc → AH → Prop} (h : WE C A env e ρ σ (fun x σ1 => WE C A env o ρ σ1 (fun v σ2 => WE C A env i ρ σ2 (fun k σ3 => WSi C A v k x σ3 (fun σ4 => Q .next ρ σ4) E) E) E) E)
    (hs : isCompE e = false := by rfl) : WS C A env (.Assign [.Subscript o i p] e pos) ρ σ Q E := by
  refine ⟨?_⟩
  intro ad s hr er
  refine wpAny_Assign_Subscript (wpAny_mono (h.run ad s hr er) ?_ fun _ _ x => x) (swaps_not hs)
  rintro x s1 ⟨ad1, σ1, vx, n1, r1, h1⟩
  refine wpAny_mono (h1.run ad1 s1 n1.hr (er.next n1)) ?_ fun _ _ x => x
  rintro ov s2 ⟨ad2, σ2, vo, n2, r2, h2⟩
  refine wpAny_mono (h2.run ad2 s2 n2.hr ((er.next n1).next n2)) ?_ fun _ _ x => x
  rintro iv s3 ⟨ad3, σ3, vi, n3, r3, h3⟩
  refine wpAny_mono (h3.run ad3 s3 ov iv x n3.hr (n3.rv r2) r3 (n3.rv (n2.rv r1))) ?_ fun _ _ x => x
  rintro _ s4 ⟨ad4, σ4, n4, h4⟩
  exact PS.ofE er (n1.trans (n2.trans (n3.trans n4))) (fl := .next) rfl h4
theorem seti_list {j : Nat} {xs : List V} {k : Int} {x : V} {Q : AH → Prop} (b : σ[j]? = some (.list xs)) (h0 : 0 ≤ k) (hf : k < 2 ^ 63) (hn : k < xs.length) (h : Q (σ.set j (.list (xs.set k.toNat x)))) : WSi C A (.ref j) (.int k) x σ Q E := by
  refine ⟨?_⟩
  rintro ad s vo vi vx hr ⟨a, ha, rfl⟩ ⟨t, rfl⟩ rx
  obtain ⟨ob, h1, vs, n, rfl, rvs⟩ := hr.obj j _ a b ha
  have hlen : vs.size = xs.length := by have := rvs.length; simp at this; lia
  refine setItem_plain h1 h0 hf (by lia) fun h' n' hg hs => ⟨ad, _, Nx.set (tk := s.toks) (o := .list (xs.set k.toNat x)) hr ha hs hg ⟨_, n', rfl, ?_⟩, h⟩
  rw [Array.toList_setIfInBounds]
  exact rvs.set rx _
/- ints -/
theorem pow_ii {i n : Int} (hn : 0 ≤ n) (hn2 : n ≤ 1000000) (ha : i.natAbs < 2 ^ 64) (h : Q (.int (i ^ n.toNat)) σ) : WOp2 C A (binaryOp .Pow) (.int i) (.int n) σ Q E := by
  refine ⟨?_⟩
  rintro ad s x y hr ⟨t, rfl⟩ ⟨u, rfl⟩
  exact pow_int_small hn hn2 ha (PE.tok (v := .int (i ^ n.toNat)) _ hr ⟨_, rfl⟩ h)
theorem shl_ii {i n : Int} (hn : 0 ≤ n) (hn2 : n ≤ 1000000) (ha : i.natAbs < 2 ^ 64) (h : Q (.int (i * 2 ^ n.toNat)) σ) : WOp2 C A (binaryOp .LShift) (.int i) (.int n) σ Q E := by
  refine ⟨?_⟩
  rintro ad s x y hr ⟨t, rfl⟩ ⟨u, rfl⟩
  exact lshift_int_small hn hn2 ha (PE.tok (v := .int (i * 2 ^ n.toNat)) _ hr ⟨_, rfl⟩ h)
theorem WE_globi {C : Cx} {l : List (Str × Value)} {x : Str} {pos : Pos} {i : Int} {t : Tok} {Q : V → AH → Prop} (hx : (x, Value.int i t) ∈ l) (h : Q (.int i) σ) : WE (C.wg l) A env (.Name x pos) ρ σ Q E := by
  refine ⟨?_⟩
  intro ad s hr er
  have := (WE_glob (C := C) (A := A) (env := env) (ρ := ρ) (σ := σ) (E := E) (pos := pos) (Q := fun v σ1 => v = .k (.int i t) ∧ σ1 = σ) hx ⟨rfl, rfl⟩).run ad s hr er
  refine wpAny_mono this ?_ fun _ _ x => x
  rintro u s1 ⟨ad1, σ1, v, n1, r1, rfl, rfl⟩
  cases r1
  exact ⟨ad1, _, .int i, n1, ⟨t, rfl⟩, h⟩
theorem RVs.toInts {ad : List Addr} : ∀ {ns : List Int} {vs : List Value}, RVs ad (ns.map .int) vs → IntsAre vs ns
  | [], _, .nil => .nil
  | n :: ns, _, .cons ⟨t, e⟩ h => by subst e; exact .cons _ _ (RVs.toInts h)
end
end Mine

-- part Aw20
set_option autoImplicit false
set_option linter.unusedVariables false
namespace Mine
open PySem PySem.W PyProof.Rows

/- the frames around -/
section
variable {C : Cx} {A : Around} {env : Env} {ρ : Loc} {σ : AH} {E : EX}
/- what raises for sure -/
end
end Mine

-- part Aw21
set_option autoImplicit false
set_option linter.unusedVariables false
namespace Mine
open PySem PySem.W PyProof.Rows

section
variable {C : Cx} {A : Around} {env : Env} {ρ : Loc} {σ : AH} {E : EX}
abbrev EF : EX := fun _ _ => False
/-- a call with arguments as a method's base -/
noncomputable def callBase : Expr → Bool
  | .Call _ [] _ _ => false
  | _ => true
theorem base_eq {o : Expr} {name : Str} {env : Env} (h : callBase o = true) : attributeBase o name env (eval o env) = eval o env := by
  cases o with
  | Call f as ks p => cases as with
    | nil => cases h
    | cons a r => cases f <;> rfl
  | _ => rfl
theorem meth_eval2 {o : Expr} {name : Str} {apos pos : Pos} {args : List Expr} {env : Env} (h1 : callBase o = true) (h2 : noStar args = true) (h3 : Nat.ble args.length 28 = true) (h4 : (apos.endLine == pos.line) = true) :
    ∃ pl, eval (.Call (.Attribute o name apos) args [] pos) env = (do
      let ov ← eval o env
      standAt apos.atName
      let (f, first) ← holding [ov] (getMethod ov name pl)
      callWith pos f first (backTo pos (starEach args env)) (backToKw pos (keywordEach [] env))) := by
  refine ⟨(do return (← importBound o env).getD true), ?_⟩
  rw [arm_eval_Call]
  have e1 := base_eq (name := name) (env := env) h1
  have e2 : methodCallForm (args.length + ([] : List Keyword).length) (backTo pos (starEach args env)) (backToKw pos (keywordEach [] env)) = true := by
    unfold methodCallForm
    rw [noStar_all env h2]
    have := Nat.le_of_ble_eq_true h3
    simp [backToKw, keywordEach]
    lia
  rw [e1]
  unfold methodCall calleeOf methodCallPos
  rw [e2, h4]
  rfl
theorem WE_methc {Q : V → AH → Prop} {o : Expr} {name : Str} {apos pos : Pos} {args : List Expr} (h : WE C A env o ρ σ (fun v σ1 => WM C A v name σ1 (fun f first σ2 => Callable C f ∧ WL C A env args ρ σ2 (fun vs σ3 => WC C A f (first ++ vs) σ3 Q E) E) E) E) (h1 : callBase o = true := by rfl) (hns : noStar args = true := by rfl)
    (h3 : Nat.ble args.length 28 = true := by rfl) (h4 : (apos.endLine == pos.line) = true := by rfl) :
    WE C A env (.Call (.Attribute o name apos) args [] pos) ρ σ Q E := by
  refine ⟨?_⟩
  intro ad s hr er
  obtain ⟨pl, he⟩ := meth_eval2 (o := o) (name := name) (env := env) h1 hns h3 h4
  refine methodCall_KW (pl := pl) ?_ he
  refine wpAny_mono (h.run ad s hr er) ?_ fun _ _ x => x
  rintro u s1 ⟨ad1, σ1, v, n1, r1, h1⟩
  refine wpAny_mono (h1.run ad1 s1 u pl n1.hr r1) ?_ fun _ _ x => x
  rintro fx s2 ⟨ad2, σ2, first, n2, r2, hc, h2⟩
  exact wpAny_mono (callWith_go hc hns n2.hr ((er.next n1).next n2) r2 h2) (fun u s' p => PE.trans (n1.trans n2) p) fun _ _ x => x
/- statements that raise -/
end
end Mine

-- part Aw22
set_option autoImplicit false
set_option linter.unusedVariables false
namespace Mine
open PySem PySem.W PyProof.Rows

section
variable {C : Cx} {A : Around} {env : Env} {ρ : Loc} {σ : AH} {E : EX} {Q : V → AH → Prop}
theorem WC_typeI {i : Int} (h : Q (.k (.type "int")) σ) : WC C A (.type "type") [.int i] σ Q E := by
  refine ⟨?_⟩
  rintro ad s us hr (_ | ⟨⟨t, rfl⟩, _ | _⟩)
  exact call_type_of (typeIs_int _ _ _) (by decide) (PE.here (v := .k (.type "int")) hr rfl h)
theorem isNot_self_k {T : String} (h : Q (.bool false) σ) : WOp2 C A (compareOp .IsNot) (.k (.type T)) (.k (.type T)) σ Q E := by
  refine ⟨?_⟩
  rintro ad s x y hr rfl rfl
  exact wpAny_isNot_self rfl (PE.here (v := .bool false) hr rfl h)
end
end Mine

-- part Aw23
set_option autoImplicit false
set_option linter.unusedVariables false
namespace Mine
open PySem PySem.W PyProof.Rows

section
variable {prog : Program} {w : World} {A : Around} {E : Value → Shared → Prop} {s : Shared}
end
section
variable {C : Cx} {A : Around} {env : Env} {ρ : Loc} {σ : AH} {E : EX} {Q : V → AH → Prop}
theorem swaps_attr {e o : Expr} {a : Str} {p : Pos} {l : Nat} {env : Env} : swapsWith e (some (.Attribute o a p)) l env = pure false := by
  cases e <;> rfl
theorem WS_setattrC {o e : Expr} {attr : Str} {p pos : Pos} {Q : Fl → Loc → AH → Prop} (h : WE C A env e ρ σ (fun x σ1 => WE C A env o ρ σ1 (fun v σ2 => WSt C A v attr x σ2 (fun σ3 => Q .next ρ σ3) E) E) E) : WS C A env (.Assign [.Attribute o attr p] e pos) ρ σ Q E := by
  refine ⟨?_⟩
  intro ad s hr er
  refine plainObj_wpAny_Assign_Attribute (wpAny_mono (h.run ad s hr er) ?_ fun _ _ x => x) swaps_attr
  rintro x s1 ⟨ad1, σ1, vx, n1, r1, h1⟩
  refine wpAny_mono (h1.run ad1 s1 n1.hr (er.next n1)) ?_ fun _ _ x => x
  rintro ov s2 ⟨ad2, σ2, vo, n2, r2, h2⟩
  refine wpAny_mono (h2.run ad2 s2 ov x n2.hr r2 (n2.rv r1)) ?_ fun _ _ x => x
  rintro _ s3 ⟨ad3, σ3, n3, h3⟩
  exact PS.ofE er (n1.trans (n2.trans n3)) (fl := .next) rfl h3
end
end Mine

-- part Aw24
set_option autoImplicit false
set_option linter.unusedVariables false
namespace Mine
open PySem PySem.W PyProof.Rows

theorem get_mid {σ J : AH} {o : O} {n : Nat} (e : n = σ.length) : (σ ++ [o] ++ J)[n]? = some o := by
  subst e; rw [List.append_assoc, List.getElem?_append_right (Nat.le_refl _)]; simp
theorem set_mid {σ J : AH} {o o' : O} {n : Nat} (e : n = σ.length) : (σ ++ [o] ++ J).set n o' = σ ++ [o'] ++ J := by
  subst e; rw [List.append_assoc, List.set_append_right _ _ (Nat.le_refl _)]; simp
theorem exNat {n : Nat} {P : Nat → Prop} (h : P n) : ∃ m : Nat, [V.int n] = [V.int m] ∧ P m := ⟨n, rfl, h⟩
theorem rngSize0 (n : Nat) : (Builtin.Range.rangeSize 0 n 1).toNat = n := by
  unfold Builtin.Range.rangeSize
  simp
  split <;> lia

section
variable {C : Cx} {A : Around} {env : Env} {ρ : Loc} {σ : AH} {E : EX} {Q : V → AH → Prop}
theorem WL.conseq {es : List Expr} {Q Q' : List V → AH → Prop} (h : WL C A env es ρ σ Q E) (hq : ∀ v σ1, Q v σ1 → Q' v σ1) : WL C A env es ρ σ Q' E := by
  refine ⟨?_⟩
  intro ad s pos hr er
  refine wpAny_mono (h.run ad s pos hr er) ?_ fun _ _ x => x
  rintro u s1 ⟨ad1, σ1, v, n1, r1, h1⟩
  exact ⟨ad1, σ1, v, n1, r1, hq _ _ h1⟩
theorem WItr_rng {C : Cx} {l : List (Str × Value)} {id : Str} {p pos : Pos} {args : List Expr} {K : Nat → (Nat → V) → (AH → Prop) → AH → Prop} (hA : A.handled = none) (hf : (id, Value.type "range") ∈ l)
    (h : WL (C.wg l) A env args ρ σ (fun vs σ1 => ∃ n : Nat, vs = [.int n] ∧ n ≤ 2 ^ 60 ∧ K n (fun i => .int (i : Nat)) (fun _ => True) σ1) E)
    (hns : noStar args = true := by rfl) : WItr (C.wg l) A env (.Call (.Name id p) args [] pos) ρ σ K E := by
  refine WItr_range hA hf (h.conseq ?_) hns
  rintro vs σ1 ⟨n, rfl, hn, hk⟩
  refine ⟨0, n, 1, rfl, by decide, by decide, by lia, by decide, ?_⟩
  rw [rngSize0]
  have e : (fun i : Nat => V.int (0 + (i : Int) * 1)) = fun i : Nat => V.int i := by funext i; congr 1; lia
  rw [e]; exact hk
theorem listSub_bool {prog : Program} {w : World} {s : Shared} {b : Bool} {Q : Option Int → Shared → Prop} (h : Q (some (if b = true then 1 else 0)) s) :
    wpAny (model prog w) A (Builtin.List.listSubscript? (.bool b)) Q E s := by
  unfold Builtin.List.listSubscript?
  refine wpAny_bind (wpAny_specialOf (T := "bool") (PySem.typeIs_bool s b) PySem.F.slot_bool_index.lookup ?_)
  show wpAny _ A (asIndex (.bool b) >>= _) Q E s
  refine wpAny_bind (wpAny_of_eq (a := if b = true then 1 else 0) (by cases b <;> rfl) ?_)
  cases b <;> exact wpAny_pure h
theorem getItem_bool {prog : Program} {w : World} {s : Shared} {l : Addr} {items : Array Value} {b : Bool} {x : Value} {Q : Value → Shared → Prop} (hl : s.heap.IsList l items)
    (hx : items[(if b = true then 1 else 0 : Nat)]? = some x) (h : Q x s) : wpAny (model prog w) A (getItem (.ref l) (.bool b)) Q E s := by
  obtain ⟨o, ho, hc, ne, hd⟩ := id hl
  unfold getItem
  try with_reducible refine wpAny_holding ?_
  first | refine wpAny_bind (wpAny_pure ?_) | skip
  refine wpAny_bind (wpAny_sequenceKey hl.typeIs (by decide) ?_)
  refine wpAny_bind (wpAny_callSpecial?_slot (name := Str.ofString "__getitem__") hl.typeIs slot_list_getitem
    (wpAny_call_entry slot_list_getitem hl.typeIs entry_list_getitem ?_ (args_list_getitem _ _)))
  show wpAny _ _ (Builtin.List.listSubscript? (.bool b) >>= _) _ _ s
  refine wpAny_bind (listSub_bool ?_)
  generalize hj : (if b = true then 1 else 0 : Nat) = j at hx
  have e : (if b = true then (1 : Int) else 0) = Int.ofNat j := by subst hj; cases b <;> rfl
  rw [e]
  show wpAny _ _ ((seqItemAt l j >>= fun r => pure (r.map (j, ·))) >>= _) _ _ s
  refine wpAny_bind (wpAny_bind (wpAny_seqItemAt ho hd (wpAny_pure ?_)))
  rw [hx]
  first
    | exact wpAny_bind (wpAny_pure (wpAny_pure ⟨x, rfl, wpAny_pure h⟩))
    | exact wpAny_pure ⟨x, rfl, wpAny_pure h⟩
noncomputable def ixOf : V → Option Nat
  | .int i => if 0 ≤ i ∧ i < 2 ^ 63 then some i.toNat else none
  | .bool b => some (if b = true then 1 else 0)
  | _ => none
theorem ixI {k : Int} {x : V} {vs : List V} {P : V → Prop} (h0 : 0 ≤ k) (h1 : k < 2 ^ 63) (hx : vs[k.toNat]? = some x) (h : P x) : ∃ j y, ixOf (.int k) = some j ∧ vs[j]? = some y ∧ P y :=
  ⟨k.toNat, x, (show (if 0 ≤ k ∧ k < 2 ^ 63 then some k.toNat else none) = some k.toNat from if_pos ⟨h0, h1⟩), hx, h⟩
/-- an item of a list written out, by a number or a truth value -/
theorem WE_menuX {es : List Expr} {slice : Expr} {lp pos : Pos} (h : WL C A env es ρ σ (fun vs σ1 => vs.length ≤ sizeLine ∧ WE C A env slice ρ σ1 (fun b σ2 => ∃ k x, ixOf b = some k ∧ vs[k]? = some x ∧ Q x σ2) E) E)
    (hs : isSliceE slice = false := by rfl) : WE C A env (.Subscript (.List es lp) slice pos) ρ σ Q E := by
  refine ⟨?_⟩
  intro ad s hr er
  refine Subscript_ (List_ (wpAny_mono (h.run ad s lp hr er) ?_ fun _ _ x => x))
  rintro us s1 ⟨ad1, σ1, vs, n1, r1, hz, h1⟩
  refine wpAny_newObj_type ?_ (by show us.toArray.size ≤ sizeLine; rw [List.size_toArray, ← r1.length]; exact hz)
  have n2 : Nx C [] ad1 s1 ad1 σ1 { s1 with heap := s1.heap.push { cls := .type "list", data := .seq us.toArray } } := Nx.push _ n1.hr
  have n12 := n1.trans n2
  refine wpAny_mono (h1.run ad1 _ n2.hr (er.next n12)) ?_ fun _ _ x => x
  rintro b s3 ⟨ad3, σ3, vb, n3, r3, k, x, hk, hx, hq⟩
  have hl : s3.heap.IsList s1.heap.objs.size us.toArray := by
    refine ⟨_, n3.same s1.heap.objs.size _ (Heap.get?_push_size _ rfl) ?_ (by simp), rfl, _, rfl⟩
    exact (n1.hr.fresh (Nat.le_refl _)).2
  obtain ⟨u, hu, ru⟩ := r1.get hx
  have n13 := n12.trans n3
  cases vb with
  | int i =>
    obtain ⟨t, rfl⟩ := r3
    have hk : (if 0 ≤ i ∧ i < 2 ^ 63 then some i.toNat else none) = some k := hk
    by_cases hi : 0 ≤ i ∧ i < 2 ^ 63
    · rw [if_pos hi] at hk
      cases hk
      exact tail_any hl.typeIs slot_list_getitem.lookup (wpAny_getItem_list hl hi.1 hi.2 (by simpa using hu) ⟨ad3, σ3, x, n13, n3.rv (n2.rv ru), hq⟩) (slice_not hs _ _)
    · rw [if_neg hi] at hk
      cases hk
  | bool c =>
    cases r3
    cases hk
    exact tail_any hl.typeIs slot_list_getitem.lookup (getItem_bool hl (by simpa using hu) ⟨ad3, σ3, x, n13, n3.rv (n2.rv ru), hq⟩) (slice_not hs _ _)
  | _ => cases hk
theorem Rd.list_inv {v : V} {ds : List PyData} (h : Rd C σ v (.list ds)) : ∃ xs, ObjAt C σ v (.list xs) ∧ RdAll C σ xs ds := by
  cases h with
  | list o r => exact ⟨_, o, r⟩
theorem RdAll.range_inv {n : Nat} {g : Nat → PyData} : ∀ {xs : List V}, RdAll C σ xs ((List.range n).map g) → ∃ f : Nat → V, xs = (List.range n).map f ∧ ∀ k, k < n → Rd C σ (f k) (g k) := by
  have gen : ∀ (ds : List PyData) (xs : List V), RdAll C σ xs ds → xs.length = ds.length ∧ ∀ k (h1 : k < ds.length) (h2 : k < xs.length), Rd C σ xs[k] ds[k] := by
    intro ds
    induction ds with
    | nil => intro xs h; cases h; exact ⟨rfl, fun k h => absurd h (Nat.not_lt_zero _)⟩
    | cons d r ih =>
      intro xs h
      cases h with
      | @cons v d vs ds a b =>
        obtain ⟨i1, i2⟩ := ih vs b
        refine ⟨by simp [i1], fun k h1 h2 => ?_⟩
        cases k with
        | zero => exact a
        | succ k => exact i2 k (by simpa using h1) (by simpa using h2)
  intro xs h
  obtain ⟨h1, h2⟩ := gen _ _ h
  have h1' : xs.length = n := by simpa using h1
  refine ⟨fun k => xs.getD k .none, ?_, fun k hk => ?_⟩
  · refine List.ext_getElem (by simp [h1']) fun i a b => ?_
    simp [a]
  · have := h2 k (by simpa using hk) (by lia)
    simp at this
    simpa [List.getD, show k < xs.length by lia] using this
theorem RdAll.range {n : Nat} {f : Nat → V} {g : Nat → PyData} (h : ∀ k, k < n → Rd C σ (f k) (g k)) : RdAll C σ ((List.range n).map f) ((List.range n).map g) := by
  have gen : ∀ l : List Nat, (∀ k ∈ l, k < n) → RdAll C σ (l.map f) (l.map g) := by
    intro l
    induction l with
    | nil => intro _; exact .nil
    | cons x r ih => intro hl; exact .cons (h x (hl x (.head _))) (ih fun k hk => hl k (.tail _ hk))
  exact gen _ fun k hk => List.mem_range.mp hk
theorem Rd.ints_inv {v : V} {r : List Int} (h : Rd C σ v (.list (r.map PyData.int))) : ObjAt C σ v (.list (r.map V.int)) := by
  obtain ⟨xs, o, ra⟩ := h.list_inv
  have : ∀ (r : List Int) (xs : List V), RdAll C σ xs (r.map PyData.int) → xs = r.map V.int := by
    intro r
    induction r with
    | nil => intro xs h; cases h; rfl
    | cons i r ih =>
      intro xs h
      rw [List.map_cons] at h
      cases h with
      | cons a b => cases a; rw [ih _ b]; rfl
  rw [this r xs ra] at o
  exact o
end
end Mine

-- part Aw25
set_option autoImplicit false
set_option linter.unusedVariables false
namespace Mine
open PySem PySem.W PyProof.Rows

theorem lenS {n : Nat} : ∀ {xs : List Value}, xs.length = n + 1 → ∃ x r, xs = x :: r ∧ r.length = n
  | x :: r, h => ⟨x, r, rfl, Nat.succ.inj h⟩
theorem len0 {xs : List Value} (h : xs.length = 0) : xs = [] := List.eq_nil_of_length_eq_zero h
theorem len1 {xs : List Value} (h : xs.length = 1) : ∃ x0, xs = [x0] := let ⟨x, r, e, h2⟩ := lenS h; ⟨x, by rw [e, len0 h2]⟩
theorem len2 {xs : List Value} (h : xs.length = 2) : ∃ x0 x1, xs = [x0, x1] := let ⟨x, r, e, h2⟩ := lenS h; let ⟨y0, e2⟩ := len1 h2; ⟨x, y0, by rw [e, e2]⟩
theorem len3 {xs : List Value} (h : xs.length = 3) : ∃ x0 x1 x2, xs = [x0, x1, x2] := let ⟨x, r, e, h2⟩ := lenS h; let ⟨y0, y1, e2⟩ := len2 h2; ⟨x, y0, y1, by rw [e, e2]⟩
theorem len4 {xs : List Value} (h : xs.length = 4) : ∃ x0 x1 x2 x3, xs = [x0, x1, x2, x3] := let ⟨x, r, e, h2⟩ := lenS h; let ⟨y0, y1, y2, e2⟩ := len3 h2; ⟨x, y0, y1, y2, by rw [e, e2]⟩
theorem len5 {xs : List Value} (h : xs.length = 5) : ∃ x0 x1 x2 x3 x4, xs = [x0, x1, x2, x3, x4] := let ⟨x, r, e, h2⟩ := lenS h; let ⟨y0, y1, y2, y3, e2⟩ := len4 h2; ⟨x, y0, y1, y2, y3, by rw [e, e2]⟩
theorem len6 {xs : List Value} (h : xs.length = 6) : ∃ x0 x1 x2 x3 x4 x5, xs = [x0, x1, x2, x3, x4, x5] := let ⟨x, r, e, h2⟩ := lenS h; let ⟨y0, y1, y2, y3, y4, e2⟩ := len5 h2; ⟨x, y0, y1, y2, y3, y4, by rw [e, e2]⟩
theorem len7 {xs : List Value} (h : xs.length = 7) : ∃ x0 x1 x2 x3 x4 x5 x6, xs = [x0, x1, x2, x3, x4, x5, x6] := let ⟨x, r, e, h2⟩ := lenS h; let ⟨y0, y1, y2, y3, y4, y5, e2⟩ := len6 h2; ⟨x, y0, y1, y2, y3, y4, y5, by rw [e, e2]⟩
theorem fm_range {α : Type} (xs : List α) (s : Nat) : ∀ c, s + c ≤ xs.length → ((List.range c).map (fun k => s + k)).filterMap (xs[·]?) = (xs.drop s).take c
  | 0, _ => by simp
  | c + 1, h => by
    have ih := fm_range xs s c (by lia)
    have hl : s + c < xs.length := by lia
    rw [List.range_succ, List.map_append, List.filterMap_append, ih, List.take_add_one]
    simp [List.getElem?_drop, hl]
theorem sliceRange_nat (a b : Nat) (h : a ≤ b) : sliceRange a b 1 = (List.range (b - a)).map (fun k => a + k) := by
  obtain ⟨c, rfl⟩ : ∃ c, b = a + c := ⟨b - a, by lia⟩
  unfold sliceRange
  have e : (if (1 : Int) > 0 then (if (a : Int) < ((a + c : Nat) : Int) then (((a + c : Nat) : Int) - a + 1 - 1) / 1 else 0) else (if (a : Int) > ((a + c : Nat) : Int) then ((a : Int) - ((a + c : Nat) : Int) - 1 - 1) / (-1) else 0)).toNat = c := by
    rw [if_pos (by decide), Int.ediv_one]
    split <;> lia
  dsimp only
  rw [e, Nat.add_sub_cancel_left]
  refine List.map_congr_left fun k _ => ?_
  rw [Int.one_mul]; rfl
section
variable {C : Cx} {A : Around} {env : Env} {ρ : Loc} {σ : AH} {E : EX} {Q : V → AH → Prop}
mutual
theorem Rd.turn {C C' : Cx} {σ σ' : AH} (ho : ∀ v o, ObjAt C σ v o → ObjAt C' σ' v o) : ∀ {v : V} {d : PyData}, Rd C σ v d → Rd C' σ' v d
  | _, _, .none => .none
  | _, _, .bool => .bool
  | _, _, .int => .int
  | _, _, .str => .str
  | _, _, .list o r => .list (ho _ _ o) (RdAll.turn ho r)
  | _, _, .tuple o r => .tuple (ho _ _ o) (RdAll.turn ho r)
theorem RdAll.turn {C C' : Cx} {σ σ' : AH} (ho : ∀ v o, ObjAt C σ v o → ObjAt C' σ' v o) : ∀ {v : List V} {d : List PyData}, RdAll C σ v d → RdAll C' σ' v d
  | _, _, .nil => .nil
  | _, _, .cons r rs => .cons (Rd.turn ho r) (RdAll.turn ho rs)
end
theorem Rd.up {J : AH} {v : V} {d : PyData} (h : Rd C σ v d) : Rd C (σ ++ J) v d := h.turn fun _ _ o => o.up
theorem RdAll.up {J : AH} {v : List V} {d : List PyData} (h : RdAll C σ v d) : RdAll C (σ ++ J) v d := h.turn fun _ _ o => o.up
theorem Rd.wg {l : List (Str × Value)} {v : V} {d : PyData} (h : Rd C σ v d) : Rd (C.wg l) σ v d := h.turn fun v o q => by cases v <;> exact q
theorem Rd.gw {l : List (Str × Value)} {v : V} {d : PyData} (h : Rd (C.wg l) σ v d) : Rd C σ v d := h.turn fun v o q => by cases v <;> exact q
theorem RdAll.snoc {vs : List V} {ds : List PyData} {v : V} {d : PyData} (h : RdAll C σ vs ds) (hv : Rd C σ v d) : RdAll C σ (vs ++ [v]) (ds ++ [d]) := by
  induction vs generalizing ds with
  | nil => cases h; exact .cons hv .nil
  | cons a r ih => cases h with
    | cons x y => exact .cons x (ih y)
theorem RdAll.len {vs : List V} {ds : List PyData} (h : RdAll C σ vs ds) : vs.length = ds.length := by
  induction vs generalizing ds with
  | nil => cases h; rfl
  | cons a r ih => cases h with
    | cons x y => simp [ih y]
theorem RdAll.get {vs : List V} {ds : List PyData} (h : RdAll C σ vs ds) : ∀ {i : Nat} {d : PyData}, ds[i]? = some d → ∃ v, vs[i]? = some v ∧ Rd C σ v d := by
  induction vs generalizing ds with
  | nil => cases h; intro i d h; simp at h
  | cons a r ih => cases h with
    | cons x y =>
      intro i d hd
      cases i with
      | zero => simp at hd; subst hd; exact ⟨a, rfl, x⟩
      | succ i => simp at hd; obtain ⟨v, h1, h2⟩ := ih y hd; exact ⟨v, by simpa using h1, h2⟩
end
end Mine

-- part Aw26
set_option autoImplicit false
set_option linter.unusedVariables false
namespace Mine
open PySem PySem.W PyProof.Rows

section
variable {C : Cx} {A : Around} {env : Env} {ρ : Loc} {σ : AH} {E : EX} {Q : V → AH → Prop}
theorem compLoopG {prog : Program} {w : World} {R : Result → Shared → Prop} {s : Shared} {elt target iter : Expr} {ifs : List Expr} {scope : Scope} {pos : Pos} {it acc : Value} (I : Nat → Shared → Prop)
    (turn : ∀ n s, I n s → wpAny (model prog w) A (pyNext it) (fun r s₁ => match r with
      | none => R (.ok .next) s₁
      | some v => wpAny (model prog w) A (letOwnedTupleGo target it v) (fun _ s₁' => wpAny (model prog w) A (assign target env v) (fun _ s₂ =>
          wpAny (model prog w) A (forIn ifs true fun c r => if r = true then do let ok ← isTrue c env (eval c env); pure (ForInStep.yield ok) else pure (ForInStep.yield r)) (fun ok s₃ =>
            if ok = true then wpAny (model prog w) A (eval elt env) (fun x s₄ =>
              wpAny (model prog w) A (call (.builtin "list.append") [acc, x]) (fun _ s₅ => ∃ m, m < n ∧ I m s₅) (notedBy (model prog w) A env fun e s' => R (.error e) s') s₄) (notedBy (model prog w) A env fun e s' => R (.error e) s') s₃
            else ∃ m, m < n ∧ I m s₃) (notedBy (model prog w) A env fun e s' => R (.error e) s') s₂) (notedBy (model prog w) A env fun e s' => R (.error e) s') s₁') (notedBy (model prog w) A env fun e s' => R (.error e) s') s₁) (notedBy (model prog w) A env fun e s' => R (.error e) s') s)
    (n : Nat) (h : I n s) : codeAny (model prog w) A (.compLoop (.ListComp elt [⟨target, iter, ifs, 0⟩] scope pos) 0 it acc env) R s := by
  refine codeAny_loop rfl I (fun n s hI => ?_) n h
  show wpAny _ A ((compTurn (.ListComp elt [⟨target, iter, ifs, 0⟩] scope pos) 0 it acc env).onRaise (fun x => do noteFrame x env; theTreesLotGoes x)) _ _ s
  refine wpAny_noted ?_
  rw [compTurn_list]
  refine wpAny_bind (wpAny_standAt (wpAny_bind (wpAny_mono (turn n s hI) (fun r s₁ h₁ => ?_) fun _ _ h' => h')))
  cases r with
  | none => exact wpAny_pure h₁
  | some v =>
    refine wpAny_bind (wpAny_mono h₁ (fun _ s₁' h₁' => ?_) fun _ _ h' => h')
    refine wpAny_bind (wpAny_mono h₁' (fun _ s₂ h₂ => wpAny_bind (wpAny_mono h₂ (fun ok s₃ h₃ => ?_) fun _ _ h' => h')) fun _ _ h' => h')
    cases ok with
    | false => exact wpAny_pure ⟨rfl, h₃⟩
    | true => exact wpAny_bind (wpAny_bind (wpAny_mono h₃ (fun x s₄ h₄ => wpAny_bind (wpAny_mono h₄ (fun _ s₅ h₅ => wpAny_pure (wpAny_pure ⟨rfl, h₅⟩)) fun _ _ h' => h')) fun _ _ h' => h'))
end
end Mine

-- part Aw28
set_option autoImplicit false
set_option linter.unusedVariables false
namespace Mine
open PySem PySem.W PyProof.Rows

noncomputable def atomIs : Atom → Value → Bool
  | .s x, v => Value.isStrOf x v
  | .i n, v => Value.isInt n v
noncomputable def atomKind (prog : Program) (w : World) : KeyKind prog w Atom where
  is := atomIs
  hash := atomHash w.params
  inj := fun v a b ha hb => by
    cases a with
    | s x => cases b with
      | s y => rw [Value.isStrOf_inj v x y ha hb]
      | i n => obtain ⟨u, h⟩ := Value.isInt_shape (show Value.isInt n v = true from hb); subst h; exact (Bool.false_ne_true ha).elim
    | i n => cases b with
      | s y => obtain ⟨u, h⟩ := Value.isInt_shape (show Value.isInt n v = true from ha); subst h; exact (Bool.false_ne_true hb).elim
      | i m => rw [Value.isInt_inj v n m ha hb]
  byValue := fun k v h => by
    cases k with
    | s x => obtain ⟨t, rfl⟩ := Value.isStrOf_shape h; rfl
    | i n => obtain ⟨t, rfl⟩ := Value.isInt_shape h; rfl
  pyHash := fun {A E s k v Q} hv h => by
    cases k with
    | s x => exact (strKind prog w).pyHash (k := x) hv h
    | i n => exact (intKind prog w).pyHash (k := n) hv h
  eqBool := fun {A E s a b u v Q} hu hv h => by
    cases a with
    | s x => cases b with
      | s y => exact (strKind prog w).eqBool (a := x) (b := y) hu hv (by simpa using h)
      | i n => obtain ⟨t, rfl⟩ := Value.isStrOf_shape hu; obtain ⟨t', rfl⟩ := Value.isInt_shape hv; exact SeqAt.EqAt.str_int x t n t' prog w E Q (by simpa using h)
    | i n => cases b with
      | s y => obtain ⟨t, rfl⟩ := Value.isStrOf_shape hv; obtain ⟨t', rfl⟩ := Value.isInt_shape hu; exact SeqAt.EqAt.int_str n t' y t prog w E Q (by simpa using h)
      | i m => exact (intKind prog w).eqBool (a := n) (b := m) hu hv (by simpa using h)
  «strs» := fun k x t v h => by
    cases k with
    | s y => exact (strKind prog w).strs y x t v h
    | i n => exact (Bool.false_ne_true h).elim

noncomputable def atomV : Atom → V
  | .s x => .str x
  | .i n => .int n
abbrev TD := List (List Atom × Nat × V)
noncomputable def tget (es : TD) (ks : List Atom) : Option V := (es.find? fun e => decide (e.1 = ks)).map (·.2.2)
noncomputable def tput (es : TD) (ks : List Atom) (j : Nat) (v : V) : TD := if (tget es ks).isSome then es.map (fun e => if e.1 = ks then (e.1, e.2.1, v) else e) else es ++ [(ks, j, v)]
noncomputable def Keyed (σ : AH) (es : TD) : Prop := ∀ e ∈ es, σ[e.2.1]? = some (.tuple (e.1.map atomV))
inductive RX (ad : List Addr) : TD → List (List Atom × Addr × Value) → Prop
  | nil : RX ad [] []
  | cons {ks : List Atom} {j : Nat} {a : Addr} {v : V} {x : Value} {es : TD} {xs : List (List Atom × Addr × Value)} : ad[j]? = some a → RV ad v x → RX ad es xs → RX ad ((ks, j, v) :: es) ((ks, a, x) :: xs)
theorem RTs.rx {prog : Program} {w : World} {ad : List Addr} {es : TD} {ds : List DictEntry} (h : RTs w.params ad es ds) : ∃ xs, RX ad es xs ∧ ds = xs.map (entryOfKey (tupleKind (atomKind prog w))) := by
  induction h with
  | nil => exact ⟨[], .nil, rfl⟩
  | cons e r _ ih => obtain ⟨xs, h1, h2⟩ := ih; exact ⟨_, .cons e r h1, by rw [h2]; rfl⟩
theorem RX.rts {prog : Program} {w : World} {ad : List Addr} {es : TD} {xs : List (List Atom × Addr × Value)} (h : RX ad es xs) : RTs w.params ad es (xs.map (entryOfKey (tupleKind (atomKind prog w)))) := by
  induction h with
  | nil => exact .nil
  | cons e r _ ih => exact .cons e r ih
theorem RX.names {ad : List Addr} {es : TD} {xs : List (List Atom × Addr × Value)} (h : RX ad es xs) : xs.map (·.1) = es.map (·.1) := by
  induction h with
  | nil => rfl
  | cons e r _ ih => simp [ih]
theorem RX.at {ad : List Addr} {es : TD} {xs : List (List Atom × Addr × Value)} (h : RX ad es xs) (ks : List Atom) : (∀ v, tget es ks = some v → ∃ p, atKey xs ks = some p ∧ RV ad v p.2) ∧ (tget es ks = none → atKey xs ks = none) := by
  induction h with
  | nil => exact ⟨fun v hv => (by cases hv), fun _ => rfl⟩
  | @cons k j a v x es xs e r _ ih =>
    by_cases hk : k = ks
    · refine ⟨fun v' hv => ?_, fun hn => ?_⟩
      · simp [tget, hk] at hv; subst hv; exact ⟨(a, x), by simp [atKey, hk], r⟩
      · simp [tget, hk] at hn
    · simpa [tget, atKey, hk] using ih
theorem RX.stored {ad : List Addr} {es : TD} {xs : List (List Atom × Addr × Value)} {ks : List Atom} {j : Nat} {a : Addr} {v : V} {x : Value} (h : RX ad es xs) (hj : ad[j]? = some a) (rv : RV ad v x) : RX ad (tput es ks j v) (storedH xs ks a x) := by
  obtain ⟨h1, h2⟩ := h.at ks
  unfold tput storedH
  cases ht : tget es ks with
  | none =>
    rw [h2 ht]
    clear h1 h2 ht
    simp only [Option.isSome_none, Bool.false_eq_true, if_false]
    induction h with
    | nil => exact .cons hj rv .nil
    | cons e r _ ih => exact .cons e r ih
  | some v0 =>
    obtain ⟨p, hp, _⟩ := h1 v0 ht
    rw [hp]
    clear h1 h2 ht hp
    simp only [Option.isSome_some, if_true]
    induction h with
    | nil => exact .nil
    | @cons k j' a' v' x' es xs e r _ ih =>
      simp only [List.map_cons]
      by_cases hk : k = ks
      · simp only [putAt, if_pos hk]; exact .cons e rv ih
      · simp only [putAt, if_neg hk]; exact .cons e r ih
theorem RVs.atoms {prog : Program} {w : World} {ad : List Addr} : ∀ {ks : List Atom} {vs : List Value}, RVs ad (ks.map atomV) vs → ItemsAre (atomKind prog w) ks vs
  | [], _, .nil => .nil
  | .s x :: ks, _, .cons ⟨t, e⟩ h => by subst e; exact .cons (knd := atomKind prog w) (k := Atom.s x) (strKind_is prog w x t) (RVs.atoms h)
  | .i n :: ks, _, .cons ⟨t, e⟩ h => by subst e; exact .cons (knd := atomKind prog w) (k := Atom.i n) (intKind_is prog w n t) (RVs.atoms h)

section
variable {C : Cx} {A : Around} {env : Env} {ρ : Loc} {σ : AH} {E : EX} {Q : V → AH → Prop}
theorem HR.tkey {ad : List Addr} {h : Heap} {j : Nat} {ks : List Atom} {a : Addr} (hr : HR C ad σ h) (b : σ[j]? = some (.tuple (ks.map atomV))) (ha : ad[j]? = some a) : IsTupleKey (atomKind C.prog C.w) h ks a := by
  obtain ⟨od, h3, vs, n, rfl, h4⟩ := hr.obj j _ a b ha
  exact ⟨_, vs, n, h3, rfl, rfl, h4.atoms⟩
theorem RX.keyed {ad : List Addr} {h : Heap} {es : TD} {xs : List (List Atom × Addr × Value)} (hr : HR C ad σ h) (k : Keyed σ es) (r : RX ad es xs) : ∀ x ∈ xs, IsTupleKey (atomKind C.prog C.w) h x.1 x.2.1 := by
  induction r with
  | nil => intro x hx; cases hx
  | cons e _ _ ih =>
    intro x hx
    rcases List.mem_cons.mp hx with rfl | hx
    · exact hr.tkey (k _ (.head _)) e
    · exact ih (fun e he => k e (.tail _ he)) x hx
theorem HR.tdict {ad : List Addr} {h : Heap} {j : Nat} {es : TD} {a : Addr} (hr : HR C ad σ h) (b : σ[j]? = some (.tdict es)) (k : Keyed σ es) (nd : (es.map (·.1)).Nodup) (ha : ad[j]? = some a) :
    ∃ xs, h.DictOfH (tupleKind (atomKind C.prog C.w)) a xs ∧ RX ad es xs := by
  obtain ⟨od, h3, ds, n, rfl, h4⟩ := hr.obj j _ a b ha
  obtain ⟨xs, r, e⟩ := h4.rx (prog := C.prog) (w := C.w)
  exact ⟨xs, ⟨_, ds, n, h3, ⟨rfl, rfl, rfl⟩, rfl, e, r.keyed hr k, by rw [r.names]; exact nd⟩, r⟩
theorem item_tdict {value slice : PySem.Expr} {j t : Nat} {es : TD} {ks : List Atom} {v : V} (hu : A.units + 1 < cLine) (b : σ[j]? = some (.tdict es)) (k : Keyed σ es) (nd : (es.map (·.1)).Nodup) (bt : σ[t]? = some (.tuple (ks.map atomV))) (hv : tget es ks = some v) (h : Q v σ)
    (hs : isSliceE slice = false := by rfl) : WSub C A value slice (.ref j) (.ref t) σ Q E := by
  refine ⟨?_⟩
  rintro ad s y z hr ⟨a, ha, rfl⟩ ⟨at', hat, rfl⟩
  obtain ⟨xs, D, r⟩ := hr.tdict b k nd ha
  obtain ⟨p, hp, rp⟩ := (r.at ks).1 v hv
  exact tail_any D.typeIs slot_dict_getitem.lookup (wpAny_getItem_heap (tupleKind_room_in1 hu) (hr.tkey bt hat) D hp (PE.tok _ hr rp h)) (slice_not hs _ _)
theorem seti_tdict {j t : Nat} {es : TD} {ks : List Atom} {x : V} {Q : AH → Prop} (hu : A.units + 1 < cLine) (b : σ[j]? = some (.tdict es)) (k : Keyed σ es) (nd : (es.map (·.1)).Nodup) (bt : σ[t]? = some (.tuple (ks.map atomV))) (hz : es.length ≤ sizeLine)
    (h : Q (σ.set j (.tdict (tput es ks t x)))) : WSi C A (.ref j) (.ref t) x σ Q E := by
  refine ⟨?_⟩
  rintro ad s vo vi vx hr ⟨a, ha, rfl⟩ ⟨at', hat, rfl⟩ rx
  obtain ⟨xs, D, r⟩ := hr.tdict b k nd ha
  have hlen : xs.length = es.length := by have := congrArg List.length r.names; simpa using this
  refine wpAny_setItem_heap (tupleKind_room_in1 hu) (hr.tkey bt hat) D (fun h' D' hs => ?_) (by rw [hlen]; exact hz)
  obtain ⟨o, es', ep, ho, ⟨hc1, hc2, hc3⟩, hd, he, _, _⟩ := D'
  obtain ⟨oc, odi, oda, osl⟩ := o
  dsimp only at hc1 hc2 hc3 hd
  subst hc1 hc2 hc3 hd
  exact ⟨ad, _, Nx.set (o := .tdict (tput es ks t x)) hr ha hs ho ⟨es', ep, rfl, by rw [he]; exact (r.stored hat rx).rts⟩, h⟩
theorem WE_dict0t {pos : Pos} (h : Q (.ref σ.length) (σ ++ [.tdict []])) : WE C A env (.Dict [] [] pos) ρ σ Q E := by
  refine ⟨?_⟩
  intro ad s hr er
  exact wpAny_Dict_empty ⟨_, _, .ref σ.length, Nx.alloc hr (o := .tdict []) ⟨#[], 0, rfl, .nil⟩, RV.last hr.len.symm, h⟩
end
end Mine

-- part Aw29
set_option autoImplicit false
set_option linter.unusedVariables false
namespace Mine
open PySem PySem.W PyProof.Rows

section
open AutoSeq1 (wpAny_loadPart')
end
section
variable {C : Cx} {A : Around} {env : Env} {ρ : Loc} {σ : AH} {E : EX} {Q : V → AH → Prop}
/- list.extend, list.reverse -/
theorem WM_list {name : Str} {id : String} {j : Nat} {xs : List V} {K : Value → List V → AH → Prop} (slot : Slot "list" name id) (hty : typeOf (.builtin id) = pure (.type "method_descriptor")) (b : σ[j]? = some (.list xs)) (h : K (.builtin id) [.ref j] σ) : WM C A (.ref j) name σ K E := by
  refine ⟨?_⟩
  rintro ad s x pl hr ⟨a, ha, rfl⟩
  obtain ⟨ob, h1, vs, n, e2, h2⟩ := hr.obj j _ a b ha
  subst e2
  have hT : s.TypeIs (.ref a) "list" := ⟨_, h1, rfl⟩
  unfold getMethod
  refine wpAny_bind (wpAny_specialOf hT list_getattribute ?_)
  show wpAny _ A (if (Manifest.canonical "list.__getattribute__" != "object.__getattribute__") = true then _ else _) _ E s
  rw [canon_list_getattribute, if_neg Bool.false_ne_true]
  refine wpAny_bind (wpAny_specialOf hT list_getattr_none ?_)
  refine wpAny_bind (wpAny_specialOf hT slot.lookup ?_)
  refine wpAny_bind (wpAny_of_eq hty ?_)
  refine wpAny_bind (wpAny_load h1 ?_)
  exact wpAny_bind (wpAny_rule (wpAny_pure ⟨ad, σ, [.ref j], Nx.refl hr, .cons ⟨a, ha, rfl⟩ .nil, h⟩))
theorem WM_extend {j : Nat} {xs : List V} {K : Value → List V → AH → Prop} (b : σ[j]? = some (.list xs)) (h : K (.builtin "list.extend") [.ref j] σ) : WM C A (.ref j) "extend" σ K E := WM_list F.slot_list_extend F.type_list_extend b h
theorem mapSeq_plain {vs : Array Value} {n : Nat} {f : Array Value → Array Value} : ∃ m, Obj.mapSeq f ⟨.type "list", none, .seq vs n, #[]⟩ = ⟨.type "list", none, .seq (f vs) m, #[]⟩ := ⟨_, rfl⟩
theorem extend_any {prog : Program} {w : World} {s : Shared} {S it : Addr} {o : Obj} {items items2 : Array Value} {c0 n2 : Nat} {Q : Value → Shared → Prop} (hS : s.heap.get? S = some ⟨.type "list", none, .seq items c0, #[]⟩) (ho : s.heap.get? it = some o) (hc : o.cls = .type "list") (hd : o.data = .seq items2 n2) (hz : items.size + items2.size ≤ sizeLine)
    (hQ : Q .none { s with heap := s.heap.update S (Obj.mapSeq (· ++ items2)) }) : wpAny (model prog w) A (call (.builtin "list.extend") [.ref S, .ref it]) Q E s := by
  refine wpAny_call_entry F.slot_list_extend ⟨_, hS, rfl⟩ F.entry_list_extend ?_ (F.args_list_extend_2 _ _)
  show wpAny _ _ (Builtin.List.listExtendWith (.ref S) (.ref it) .none) _ _ s
  unfold Builtin.List.listExtendWith
  refine wpAny_bind (wpAny_typeOf ⟨o, ho, hc⟩ ?_)
  have h1 : (Builtin.List.listSameRef (.ref S) (.ref it) || Value.type "list" == Value.type "list" || Value.type "list" == Value.type "tuple") = true := by simp
  simp only [h1, if_true]
  refine wpAny_bind ?_
  unfold Builtin.List.listItems
  refine wpAny_bind (wpAny_seqItems ho hd (wpAny_pure ?_))
  refine wpAny_bind ?_
  refine wpAny_bind (wpAny_seqItems hS rfl (wpAny_pure ?_))
  rw [if_neg (extend_door hz)]
  show wpAny _ _ (updateSeq S (· ++ items2) >>= fun _ => ret .none) _ _ s
  refine wpAny_bind (wpAny_updateSeq hS rfl ?_ (hz := by lia) (_hz' := by show (items ++ items2).size ≤ _; rw [Array.size_append]; lia))
  exact wpAny_pure ⟨.none, rfl, hQ⟩
theorem WC_extend {j : Nat} {v : V} {xs ys : List V} (b : σ[j]? = some (.list xs)) (b2 : ObjAt C σ v (.list ys)) (hz : xs.length + ys.length ≤ sizeLine) (h : Q .none (σ.set j (.list (xs ++ ys)))) : WC C A (.builtin "list.extend") [.ref j, v] σ Q E := by
  refine ⟨?_⟩
  rintro ad s us hr (_ | ⟨⟨a, ha, rfl⟩, _ | ⟨rv2, _ | _⟩⟩)
  obtain ⟨ob, h1, vs, n, e2, rvs⟩ := hr.obj j _ a b ha
  obtain ⟨a2, vs2, rfl, ⟨o2, ho2, hc2, n2, hd2⟩, rvs2⟩ := b2.list hr rv2
  subst e2
  have l1 : vs.size = xs.length := by rw [← Array.length_toList, ← rvs.length]
  have l2 : vs2.size = ys.length := by rw [← Array.length_toList, ← rvs2.length]
  refine extend_any h1 ho2 hc2 hd2 (by lia) ?_
  obtain ⟨m, em⟩ := mapSeq_plain (vs := vs) (n := n) (f := fun x => x ++ vs2)
  refine ⟨ad, _, .none, Nx.set (tk := s.toks) (o := .list (xs ++ ys)) (ob := ⟨.type "list", none, .seq (vs ++ vs2) m, #[]⟩) hr ha (Heap.SameBut.update ..) ?_ ⟨_, m, rfl, by rw [Array.toList_append]; exact rvs.append rvs2⟩, rfl, h⟩
  rw [Heap.get?_update_self _ h1 (by rw [em]; rfl), em]
/- max of three, min of a tuple, is None -/
theorem WC_max3 {i j k : Int} (hA : A.handled = none) (h : Q (.int (max (max i j) k)) σ) : WC C A (.builtin "max") [.int i, .int j, .int k] σ Q E := by
  refine ⟨?_⟩
  rintro ad s us hr (_ | ⟨⟨t, rfl⟩, _ | ⟨⟨u, rfl⟩, _ | ⟨⟨x, rfl⟩, _ | _⟩⟩⟩)
  refine wpAny_sz (max_three_ints hA fun h' tk hk hz => ⟨ad, σ, .int (max (max i j) k), Nx.keeps hz hr hk, ?_, h⟩)
  by_cases h1 : j > i
  · rw [if_pos h1, Int.max_eq_right (Int.le_of_lt h1)]
    by_cases h2 : k > j
    · rw [if_pos h2]; exact ⟨x, by rw [Int.max_eq_right (Int.le_of_lt h2)]⟩
    · rw [if_neg h2]; exact ⟨u, by rw [Int.max_eq_left (Int.not_lt.mp h2)]⟩
  · rw [if_neg h1, Int.max_eq_left (Int.not_lt.mp h1)]
    by_cases h2 : k > i
    · rw [if_pos h2]; exact ⟨x, by rw [Int.max_eq_right (Int.le_of_lt h2)]⟩
    · rw [if_neg h2]; exact ⟨t, by rw [Int.max_eq_left (Int.not_lt.mp h2)]⟩
theorem RVs.two {ad : List Addr} {i j : Int} {l : List Value} (h : RVs ad [.int i, .int j] l) : ∃ t u, l = [.int i t, .int j u] := by
  rcases h with _ | ⟨⟨t, rfl⟩, _ | ⟨⟨u, rfl⟩, _ | _⟩⟩
  exact ⟨t, u, rfl⟩
theorem WC_minT {v : V} {i j : Int} (hA : A.handled = none) (b : ObjAt C σ v (.tuple [.int i, .int j])) (h : Q (.int (min i j)) σ) : WC C A (.builtin "min") [v] σ Q E := by
  refine ⟨?_⟩
  rintro ad s us hr (_ | ⟨rv, _ | _⟩)
  obtain ⟨a, vs, rfl, hl, rvs⟩ := b.tup hr rv
  obtain ⟨t, u, etu⟩ := rvs.two
  have hT : s.heap.IsTuple a (intItems #[(i, t), (j, u)]) := by
    have e : vs = #[.int i t, .int j u] := by rw [← Array.toArray_toList (xs := vs), etu]
    rw [e] at hl; simpa [intItems] using hl
  have hlt : a < s.heap.objs.size := by obtain ⟨_, e, _⟩ := hl; exact Heap.lt_size e
  refine wpAny_sz (call_min_walk (wpAny_pyIter_tuple hT ?_))
  refine ⟨_, [_, a], [_], _, _, _, _, rfl, Walks.tuple (A := A.in1) hA _ a (Nat.ne_of_lt hlt) (intItems #[(i, t), (j, u)]), ⟨⟨_, Heap.get?_push_size _ rfl, rfl, rfl⟩, hT.push _⟩, fun d hd => ?_, by simp [intItems], CmpOf.ints_lt (numAt #[(i, t), (j, u)]) (fun _ _ => intItems_at), fun v h' tk hP hk hz => ?_⟩
  · show d < (s.heap.push _).objs.size
    rw [Heap.size_push]
    rcases List.mem_cons.mp hd with rfl | hd
    · exact Nat.lt_succ_self _
    · rcases List.mem_cons.mp hd with rfl | hd
      · exact Nat.lt_succ_of_lt hlt
      · cases hd
  · have hold : ∀ d o, s.heap.get? d = some o → h'.get? d = some o := fun d o e => by
      refine hk d o (fun hm => ?_) (Heap.get?_push_of_some _ e)
      rcases List.mem_cons.mp hm with e1 | hm
      · have := Heap.lt_size e; rw [e1] at this; exact Nat.lt_irrefl _ this
      · cases hm
    refine ⟨ad, σ, .int (min i j), Nx.keeps hz hr hold, ?_, h⟩
    have hP' : (intItems #[(i, t), (j, u)])[argBest (fun a b => decide (numAt #[(i, t), (j, u)] a < numAt #[(i, t), (j, u)] b)) 1]? = some v := by
      have hsz2 : (intItems #[(i, t), (j, u)]).size - 1 = 1 := by simp [intItems]
      rw [← hsz2]; exact hP
    by_cases hji : j < i
    · have e : argBest (fun a b => decide (numAt #[(i, t), (j, u)] a < numAt #[(i, t), (j, u)] b)) 1 = 1 := by simp [argBest, numAt, hji]
      rw [e] at hP'
      have : v = .int j u := by simpa [intItems] using hP'.symm
      subst this; exact ⟨u, by rw [Int.min_eq_right (Int.le_of_lt hji)]⟩
    · have e : argBest (fun a b => decide (numAt #[(i, t), (j, u)] a < numAt #[(i, t), (j, u)] b)) 1 = 0 := by simp [argBest, numAt, hji]
      rw [e] at hP'
      have : v = .int i t := by simpa [intItems] using hP'.symm
      subst this; exact ⟨t, by rw [Int.min_eq_left (Int.not_lt.mp hji)]⟩
theorem is_none_n (h : Q (.bool true) σ) : WOp2 C A (compareOp .Is) .none .none σ Q E := by
  refine ⟨?_⟩
  rintro ad s x y hr rfl rfl
  exact is_none (PE.here (v := .bool true) hr rfl h)
theorem is_none_r {j : Nat} (h : Q (.bool false) σ) : WOp2 C A (compareOp .Is) (.ref j) .none σ Q E := by
  refine ⟨?_⟩
  rintro ad s x y hr ⟨a, ha, rfl⟩ rfl
  exact is_none (PE.here (v := .bool false) hr rfl h)

/- a dict display with two names -/
end
end Mine

-- part Aw30
set_option autoImplicit false
set_option linter.unusedVariables false
namespace Mine
open PySem PySem.W PyProof.Rows

/-- a shadow: an abstract heap of which some objects are hidden; the lists and tuples that it shows are there -/
structure Sh (τ σ : AH) : Prop where
  len : τ.length = σ.length
  l : ∀ (j : Nat) (xs : List V), τ[j]? = some (.list xs) → σ[j]? = some (.list xs)
  t : ∀ (j : Nat) (xs : List V), τ[j]? = some (.tuple xs) → σ[j]? = some (.tuple xs)
theorem Sh.refl {σ : AH} : Sh σ σ := ⟨rfl, fun _ _ h => h, fun _ _ h => h⟩
theorem Sh.app {τ σ : AH} (h : Sh τ σ) (J : AH) : Sh (τ ++ J) (σ ++ J) := by
  refine ⟨by simp [h.len], fun j xs e => ?_, fun j xs e => ?_⟩ <;>
  · by_cases hj : j < τ.length
    · rw [List.getElem?_append_left hj] at e
      rw [List.getElem?_append_left (by rw [← h.len]; exact hj)]
      first | exact h.l j xs e | exact h.t j xs e
    · rw [List.getElem?_append_right (by lia)] at e
      rw [List.getElem?_append_right (by rw [← h.len]; lia), ← h.len]; exact e
/-- one object hidden -/
theorem Sh.hide {τ σ : AH} (h : Sh τ σ) (o : O) : Sh (τ ++ [.ns []]) (σ ++ [o]) := by
  refine ⟨by simp [h.len], fun j xs e => ?_, fun j xs e => ?_⟩ <;>
  · by_cases hj : j < τ.length
    · rw [List.getElem?_append_left hj] at e
      rw [List.getElem?_append_left (by rw [← h.len]; exact hj)]
      first | exact h.l j xs e | exact h.t j xs e
    · rw [List.getElem?_append_right (by lia)] at e
      have : j - τ.length = 0 := by
        have := (List.getElem?_eq_some_iff.mp e).1
        simp at this; lia
      rw [this] at e; cases e
section
variable {C : Cx} {A : Around} {env : Env} {ρ : Loc} {σ τ : AH} {E : EX} {Q : V → AH → Prop}
theorem ObjAt.shl {v : V} {xs : List V} (h : Sh τ σ) (o : ObjAt C τ v (.list xs)) : ObjAt C σ v (.list xs) := by
  cases v with
  | ref j => exact h.l j xs o
  | k x => cases x <;> exact o
  | _ => exact o.elim
theorem ObjAt.sht {v : V} {xs : List V} (h : Sh τ σ) (o : ObjAt C τ v (.tuple xs)) : ObjAt C σ v (.tuple xs) := by
  cases v with
  | ref j => exact h.t j xs o
  | k x => cases x <;> exact o
  | _ => exact o.elim
mutual
theorem Rd.sh (h : Sh τ σ) : ∀ {v : V} {d : PyData}, Rd C τ v d → Rd C σ v d
  | _, _, .none => .none
  | _, _, .bool => .bool
  | _, _, .int => .int
  | _, _, .str => .str
  | _, _, .list o r => .list (o.shl h) (RdAll.sh h r)
  | _, _, .tuple o r => .tuple (o.sht h) (RdAll.sh h r)
theorem RdAll.sh (h : Sh τ σ) : ∀ {v : List V} {d : List PyData}, RdAll C τ v d → RdAll C σ v d
  | _, _, .nil => .nil
  | _, _, .cons r rs => .cons (Rd.sh h r) (RdAll.sh h rs)
end
theorem Rd.tuple_inv {v : V} {ds : List PyData} (h : Rd C σ v (.tuple ds)) : ∃ xs, ObjAt C σ v (.tuple xs) ∧ RdAll C σ xs ds := by
  cases h with | tuple o r => exact ⟨_, o, r⟩
theorem RdAll.inv1 {vs : List V} {a : PyData} (h : RdAll C σ vs [a]) : ∃ x, vs = [x] ∧ Rd C σ x a := by
  cases h with | cons x y => cases y; exact ⟨_, rfl, x⟩
theorem RdAll.inv2 {vs : List V} {a b : PyData} (h : RdAll C σ vs [a, b]) : ∃ x y, vs = [x, y] ∧ Rd C σ x a ∧ Rd C σ y b := by
  cases h with | cons x r => obtain ⟨y, rfl, hy⟩ := r.inv1; exact ⟨_, y, rfl, x, hy⟩
theorem RdAll.inv3 {vs : List V} {a b c : PyData} (h : RdAll C σ vs [a, b, c]) : ∃ x y z, vs = [x, y, z] ∧ Rd C σ x a ∧ Rd C σ y b ∧ Rd C σ z c := by
  cases h with | cons x r => obtain ⟨y, z, rfl, hy, hz⟩ := r.inv2; exact ⟨_, y, z, rfl, x, hy, hz⟩
theorem Rd.int_inv {v : V} {i : Int} (h : Rd C σ v (.int i)) : v = .int i := by cases h; rfl
theorem Rd.pair {v : V} {i j : Int} (h : Rd C σ v (.tuple [.int i, .int j])) : ObjAt C σ v (.tuple [.int i, .int j]) := by
  obtain ⟨xs, o, r⟩ := h.tuple_inv
  obtain ⟨x, y, rfl, hx, hy⟩ := r.inv2
  rw [hx.int_inv, hy.int_inv] at o; exact o
end
/- matrices -/
noncomputable def rowI (r : List Int) : PyData := .list (r.map .int)
section
variable {C : Cx} {σ τ : AH}
theorem Rd.rowI_inv {v : V} {r : List Int} (h : Rd C σ v (Mine.rowI r)) : ObjAt C σ v (.list (r.map .int)) := Rd.ints_inv h
end
end Mine

-- part Aw31
set_option autoImplicit false
set_option linter.unusedVariables false
namespace Mine
open PySem PySem.W PyProof.Rows

/- a comprehension whose own name is a cell (read by an inner one) -/
abbrev cellO : Obj := { cls := .type "cell", data := .cell none }
abbrev dictO : Obj := { cls := .type "dict", data := .dict #[] }
theorem cells_none : ∀ {names : List (Str × NameKind)}, names.filter (fun p => p.2 == .cell) = [] → ∀ (n : Nat) (acc : List (Str × Addr)) (h : Heap), cellsFrom n names acc = acc ∧ pushCells h names = h
  | [], _, n, acc, h => ⟨rfl, rfl⟩
  | (y, k) :: r, e, n, acc, h => by
    rw [List.filter_cons] at e
    by_cases hk : (k == NameKind.cell) = true
    · rw [if_pos hk] at e; cases e
    · rw [if_neg hk] at e
      unfold cellsFrom pushCells
      rw [if_neg hk, if_neg hk]
      exact cells_none e n acc h
theorem cells_one {x : Str} : ∀ {names : List (Str × NameKind)}, names.filter (fun p => p.2 == .cell) = [(x, .cell)] → ∀ (n : Nat) (acc : List (Str × Addr)) (h : Heap), cellsFrom n names acc = (x, n) :: acc ∧ pushCells h names = h.push cellO
  | [], e, n, acc, h => by cases e
  | (y, k) :: r, e, n, acc, h => by
    rw [List.filter_cons] at e
    by_cases hk : (k == NameKind.cell) = true
    · rw [if_pos hk] at e
      injection e with e1 e2
      cases e1
      unfold cellsFrom pushCells
      rw [if_pos hk, if_pos hk]
      exact cells_none e2 _ _ _
    · rw [if_neg hk] at e
      unfold cellsFrom pushCells
      rw [if_neg hk, if_neg hk]
      exact cells_one e n acc h
theorem newEnv_one {M : Model} {A : Around} {E : EX} {s : Shared} {scope : Scope} {globals : Addr} {closure : List (Str × Addr)} {qual : Str} {outer : Env} {x : Str} {Q : Env → Shared → Prop} (h1 : scope.names.filter (fun p => p.2 == .cell) = [(x, .cell)])
    (hQ : Q { scope := scope, locals := s.heap.objs.size, globals := globals, cells := (x, s.heap.objs.size + 1) :: closure, qual := qual, func := none, code := outer.code, frame := outer.frame, builtins := outer.builtins } { s with heap := (s.heap.push dictO).push cellO }) :
    wpAny M A (newFunctionEnv scope globals closure [] qual none .none (some outer)) Q E s := by
  simp only [newFunctionEnv, Option.isSome_some, if_true]
  refine wpAny_bind (wpAny_alloc ?_)
  refine wpAny_bind (wpAny_layCells _ (fun name kind cells => by cases hkc : kind == NameKind.cell <;> simp [hkc]) _ _ _ _ ?_)
  rw [(cells_one h1 0 closure (s.heap.push dictO)).2, (cells_one h1 _ closure (s.heap.push dictO)).1]
  rw [show ({ s with heap := s.heap.push dictO } : Shared).heap.objs.size = s.heap.objs.size + 1 from Heap.size_push ..]
  exact wpAny_pure hQ
noncomputable def compOkC (onames : List (Str × NameKind)) (sc : Scope) (x : Str) (capt gl : List Str) : Bool :=
  sc.names.all (fun p => (p.2 != .local || sc.names.lookup p.1 == some .local) && (p.2 != .free || (capt.contains p.1 && onames.lookup p.1 == some .cell)))
  && sc.names.lookup x == some .cell && nmOk x && !capt.contains x
  && capt.all (fun y => nmOk y && sc.names.lookup y == some .free)
  && gl.all (fun y => nmOk y && sc.names.lookup y == some .globalImplicit)
  && sc.names.filter (fun p => p.2 == .cell) == [(x, .cell)]
structure CompOkC (onames : List (Str × NameKind)) (sc : Scope) (x : Str) (capt gl : List Str) : Prop where
  one : sc.names.filter (fun p => p.2 == .cell) = [(x, .cell)]
  locs : ∀ y ∈ sc.names, y.2 = .local → sc.names.lookup y.1 = some .local
  free : ∀ n, (n, NameKind.free) ∈ sc.names → n ∈ capt ∧ onames.lookup n = some .cell
  xl : sc.names.lookup x = some .cell
  xn : nmOk x = true
  xc : x ∉ capt
  cap : ∀ y ∈ capt, nmOk y = true ∧ sc.names.lookup y = some .free
  glo : ∀ y ∈ gl, nmOk y = true ∧ sc.names.lookup y = some .globalImplicit
theorem compOkC.ok {onames : List (Str × NameKind)} {sc : Scope} {x : Str} {capt gl : List Str} (h : compOkC onames sc x capt gl = true) : CompOkC onames sc x capt gl := by
  unfold compOkC at h
  simp only [Bool.and_eq_true, List.all_eq_true, Bool.or_eq_true, bne_iff_ne, beq_iff_eq, Bool.not_eq_true', List.contains_eq_mem, decide_eq_true_eq, decide_eq_false_iff_not] at h
  obtain ⟨⟨⟨⟨⟨⟨h1, h2⟩, h3⟩, h4⟩, h5⟩, h6⟩, h7⟩ := h
  refine ⟨h7, fun y hy e => ?_, fun n hn => ?_, h2, h3, h4, h5, h6⟩
  · exact ((h1 y hy).1).resolve_left fun h => h e
  · exact ((h1 _ hn).2).resolve_left fun h => h rfl
section
variable {C : Cx} {A : Around} {env : Env} {ρ : Loc} {σ : AH} {E : EX} {Q : V → AH → Prop}
theorem comp_erC {l l2 : List (Str × Value)} {onames : List (Str × NameKind)} {sc : Scope} {x : Str} {capt : Loc} {ad : List Addr} {h : Heap} {Cl Cx : Addr} {m : Str → Option Value} {v : V} {u : Value} {oc : Obj} (hkn : Kn env onames)
    (ok : CompOkC onames sc x (capt.map (·.1)) (l2.map (·.1))) (hkind : sc.kind = .function) (hnd : (capt.map (·.1)).Nodup) (hcap : ∀ p ∈ capt, p ∈ ρ) (er : ER (C.wg l) env ρ ad h)
    (hn : h.Ns Cl m) (hoc : h.get? Cx = some oc) (hdc : oc.data = .cell (some u)) (rv : RV ad v u) (hG : C.G.get? Cl = none) (had : Cl ∉ ad) (hCl : Cl ∉ fa env) (hGx : C.G.get? Cx = none) (hadx : Cx ∉ ad) (hCx : Cx ∉ fa env) (hne : Cx ≠ Cl) :
    ER (C.wg l2) (compEnvC sc ((x, Cx) :: clOf env sc.names []) Cl env) ((x, some v) :: capt) ad h ∧ Kn (compEnvC sc ((x, Cx) :: clOf env sc.names []) Cl env) (relab sc.names) := by
  have hcell : ∀ n, (n, NameKind.free) ∈ sc.names → env.kindOf n = some .cell := fun n hn => hkn n _ (ok.free n hn).2
  have hsome : ∀ n, (n, NameKind.free) ∈ sc.names → (env.cells.lookup n).isSome = true := by
    intro n hn
    obtain ⟨p, hp, rfl⟩ := List.mem_map.mp (ok.free n hn).1
    rcases er.kd p.1 p.2 (hcap p hp) with e | ⟨_, e⟩
    · rw [hcell _ hn] at e; cases e
    · exact e
  have hmem := clOf_mem (env := env) (ns := sc.names) (cs := []) hsome (by simp)
  have hlk : ∀ y c, ((x, Cx) :: clOf env sc.names []).lookup y = some c → (y = x ∧ c = Cx) ∨ (y ≠ x ∧ env.cells.lookup y = some c) := by
    intro y c e
    rw [List.lookup_cons] at e
    cases hb : y == x with
    | true => rw [hb] at e; cases e; exact .inl ⟨eq_of_beq hb, rfl⟩
    | false => rw [hb] at e; exact .inr ⟨by simpa using hb, hmem (y, c) (Mine.mem_of_lookup e)⟩
  have relabE : (relabel sc env).names = relab sc.names := by
    show List.map _ _ = List.map _ _
    refine List.map_congr_left fun p hp => ?_
    obtain ⟨n, k⟩ := p
    by_cases hk : (k == NameKind.free) = true
    · have hk' : k = .free := by simpa using hk
      subst hk'
      simp [hcell n hp, er.kind]
    · simp [hk]
  have kn : Kn (compEnvC sc ((x, Cx) :: clOf env sc.names []) Cl env) (relab sc.names) := by
    intro y k e
    show (relabel sc env).names.lookup y = _
    rw [relabE]; exact e
  have kx : (compEnvC sc ((x, Cx) :: clOf env sc.names []) Cl env).kindOf x = some .cell := kn x _ (relab_lookup ok.xl)
  have kf : ∀ y ∈ capt.map (·.1), (compEnvC sc ((x, Cx) :: clOf env sc.names []) Cl env).kindOf y = some .cell := fun y hy => kn y _ (relab_lookup (ok.cap y hy).2)
  have incl : ∀ y c, env.cells.lookup y = some c → c ∈ fa env := fun y c e => mem_cells e
  refine ⟨⟨hkind, er.glob, er.blt, ?_, ?_, ⟨m, hn, ?_⟩, ?_, ?_, ?_, ?_, ?_, ?_, ?_⟩, kn⟩
  · exact List.nodup_cons.mpr ⟨ok.xc, hnd⟩
  · intro y w hy
    rcases List.mem_cons.mp hy with e | hy
    · cases e; exact .inr ⟨.inl kx, by show (List.lookup x ((x, Cx) :: _)).isSome = true; simp⟩
    · have hy' : y ∈ capt.map (·.1) := List.mem_map.mpr ⟨_, hy, rfl⟩
      exact .inr ⟨.inl (kf y hy'), lookup_cons_isSome (clOf_some (.inl (Mine.mem_of_lookup (ok.cap y hy').2)))⟩
  · intro y w hy hk
    rcases List.mem_cons.mp hy with e | hy
    · cases e; rw [kx] at hk; cases hk
    · rw [kf y (List.mem_map.mpr ⟨_, hy, rfl⟩)] at hk; cases hk
  · intro y c hc
    rcases hlk y c hc with ⟨rfl, rfl⟩ | ⟨hyx, hc'⟩
    · refine ⟨oc, _, hoc, hdc, fun z hz hk => ?_⟩
      rcases List.mem_cons.mp hz with e | hz
      · cases e; exact ⟨u, rfl, rv⟩
      · exact absurd (List.mem_map.mpr ⟨_, hz, rfl⟩) ok.xc
    · obtain ⟨o, w, h1, h2, h3⟩ := er.cell y c hc'
      refine ⟨o, w, h1, h2, fun z hz hk => ?_⟩
      rcases List.mem_cons.mp hz with e | hz
      · cases e; exact absurd rfl hyx
      · refine h3 z (hcap _ hz) ?_
        have := hcell y (Mine.mem_of_lookup (ok.cap y (List.mem_map.mpr ⟨_, hz, rfl⟩)).2)
        rw [this]; decide
  · intro y z c h1 h2
    rcases hlk y c h1 with ⟨rfl, rfl⟩ | ⟨hyx, hc'⟩
    · rcases hlk z c h2 with ⟨rfl, _⟩ | ⟨_, hz⟩
      · rfl
      · exact absurd (incl _ _ hz) hCx
    · rcases hlk z c h2 with ⟨rfl, e⟩ | ⟨_, hz⟩
      · exact absurd (e ▸ incl _ _ hc') hCx
      · exact er.cinj y z c hc' hz
  · intro y c hc e
    have e : c = Cl := e
    rcases hlk y c hc with ⟨_, rfl⟩ | ⟨_, hc'⟩
    · exact hne e
    · exact hCl (e ▸ incl _ _ hc')
  · intro a ha
    rcases List.mem_cons.mp ha with e | ha
    · subst e; exact ⟨hG, had⟩
    · rcases List.mem_cons.mp ha with e | ha
      · subst e; exact ⟨hGx, hadx⟩
      · obtain ⟨p, hp, rfl⟩ := List.mem_map.mp ha
        exact er.off _ (mem_cells (hmem p hp))
  · intro a ha
    rcases List.mem_cons.mp ha with e | ha
    · subst e; exact hn.lt
    · rcases List.mem_cons.mp ha with e | ha
      · subst e; exact Heap.lt_size hoc
      · obtain ⟨p, hp, rfl⟩ := List.mem_map.mp ha
        exact er.lt _ (mem_cells (hmem p hp))
  · intro y w hy
    rcases List.mem_cons.mp hy with e | hy
    · cases e; exact ok.xn
    · exact (ok.cap y (List.mem_map.mpr ⟨_, hy, rfl⟩)).1
  · intro y w hy
    have := ok.glo y (List.mem_map.mpr ⟨_, hy, rfl⟩)
    exact ⟨kn y _ (relab_lookup this.2), this.1⟩
theorem comp_coreC {l l2 : List (Str × Value)} {onames : List (Str × NameKind)} {sc : Scope} {x : Str} {px : Pos} {elt iter : PySem.Expr} {ifs : List PySem.Expr} {pos : Pos} {capt : Loc} {ad : List Addr} {s2 : Shared} {I : Addr} {n : Nat} {P : Nat → V} {Cd : AH → Prop}
    {St : Nat → Heap → Prop} {RR : Value → Addr → Result → Shared → Prop} {Inv : Nat → List V → AH → Prop}
    (hkn : Kn env onames) (ok : CompOkC onames sc x (capt.map (·.1)) (l2.map (·.1))) (hkind : sc.kind = .function) (hnd : (capt.map (·.1)).Nodup) (hcap : ∀ p ∈ capt, p ∈ ρ) (hl2 : ∀ p ∈ l2, p ∈ l ∨ GloIs C p)
    (hr : HR (C.wg l) ad σ s2.heap) (er : ER (C.wg l) env ρ ad s2.heap) (wk : Wk (C.wg l) A ad I n P Cd St) (st0 : St 0 s2.heap) (hI : I ∉ ad) (hIfa : I ∉ fa env) (hIG : C.G.get? I = none) (hsz : n ≤ sizeLine) (inv0 : Inv 0 [] σ)
    (turn : ∀ i acc σ', i < n → Inv i acc σ' → Cd σ' ∧ ∀ cenv, Kn cenv (relab sc.names) → WIf (C.wg l2) A cenv true ifs ((x, some (P i)) :: capt) σ'
      (fun b σ2 => if b = true then WE (C.wg l2) A cenv elt ((x, some (P i)) :: capt) σ2 (fun v σ3 => Inv (i + 1) (acc ++ [v]) σ3) (fun _ _ => False) else Inv (i + 1) acc σ2) (fun _ _ => False))
    (hcd : ∀ acc σ', Inv n acc σ' → Cd σ')
    (hRR : ∀ D Cl ad' σ' vs s' m, s'.heap.Ns Cl m → s2.heap.objs.size ≤ Cl → Cl ∉ ad' → Nx (C.wg l) [I] ad s2 ad' (σ' ++ [.list vs]) s' → RV ad' (.ref σ'.length) (.ref D) → Inv n vs σ' → RR (.ref D) Cl (.ok .next) s') :
    wpAny (model C.prog C.w) A (newList []) (fun acc s3 => wpAny (model C.prog C.w) A (newFunctionEnv sc env.globals (clOf env sc.names []) [] env.qual none .none (some env)) (fun cenv s4 =>
      codeAny (model C.prog C.w) A (.compStart (.ListComp elt [⟨.Name x px, iter, ifs, 0⟩] sc pos) 0 (.ref I) acc { cenv with scope := relabel sc env }) (RR acc cenv.locals) s4) E s3) E s2 := by
  refine wpAny_newObj_type (newEnv_one ok.one ?_)
  dsimp only
  generalize hH2 : s2.heap.push { cls := .type "list", dict := none, data := .seq ([] : List Value).toArray } = H2
  have hC : H2.objs.size = s2.heap.objs.size + 1 := by rw [← hH2, Heap.size_push]
  generalize hh1 : (H2.push dictO).push cellO = h1
  have hz1 : h1.objs.size = s2.heap.objs.size + 3 := by rw [← hh1, Heap.size_push, Heap.size_push]; lia
  have old2 : ∀ b o, H2.get? b = some o → h1.get? b = some o := fun b o e => by rw [← hh1]; exact Heap.get?_push_of_some _ (Heap.get?_push_of_some _ e)
  have old : ∀ b o, s2.heap.get? b = some o → h1.get? b = some o := fun b o e => old2 b o (hH2 ▸ Heap.get?_push_of_some _ e)
  have hDC : s2.heap.objs.size ≠ H2.objs.size := by lia
  have hacc : h1.PlainList s2.heap.objs.size #[] := ⟨_, old2 _ _ (hH2 ▸ Heap.get?_push_size _ rfl)⟩
  have hns1 : h1.Ns H2.objs.size (fun _ => none) := (Heap.Ns.new H2 (.type "dict")).keeps fun b o e => by rw [← hh1]; exact Heap.get?_push_of_some _ e
  have hcx1 : h1.get? (H2.objs.size + 1) = some cellO := by rw [← hh1, ← Heap.size_push H2 dictO]; exact Heap.get?_push_size _ rfl
  obtain ⟨oI, hoI⟩ := wk.ex _ _ st0
  have hIlt := nlt (Heap.lt_size hoI)
  have fD := hr.fresh (Nat.le_refl s2.heap.objs.size)
  have fC := hr.fresh (a := H2.objs.size) (by lia)
  have fX := hr.fresh (a := H2.objs.size + 1) (by lia)
  have hClfa : H2.objs.size ∉ fa env := fun hm => absurd (er.lt _ hm) (Nat.not_lt.mpr (by lia))
  have hCxfa : H2.objs.size + 1 ∉ fa env := fun hm => absurd (er.lt _ hm) (Nat.not_lt.mpr (by lia))
  have st1 : St 0 h1 := wk.own _ _ _ st0 ((old I oI hoI).trans hoI.symm)
  have n1 : ∀ t, Nx (C.wg l) [I] ad s2 ad σ { s2 with heap := h1, toks := t } := fun t => ⟨⟨h1, t, rfl⟩, ⟨[], by simp, by simp⟩, by show s2.heap.objs.size ≤ h1.objs.size; lia, fun b o e _ _ => old b o e, hr.keeps old⟩
  have loop : ∀ s3 : Shared, s3 = { s2 with heap := h1 } →
      codeAny (model C.prog C.w) A (.compLoop (.ListComp elt [⟨.Name x px, iter, ifs, 0⟩] sc pos) 0 (.ref I) (.ref s2.heap.objs.size) (compEnvC sc ((x, H2.objs.size + 1) :: clOf env sc.names []) H2.objs.size env)) (RR (.ref s2.heap.objs.size) H2.objs.size) s3 := by
    rintro s3 rfl
    refine compLoopG (fun k s' => Ex8 fun i ad' σ' accV accU m' ox wx => And7 (k = n - i) (i ≤ n) (Nx (C.wg l) [I] ad s2 ad' σ' s') (s2.heap.objs.size ∉ ad') (H2.objs.size ∉ ad') (H2.objs.size + 1 ∉ ad') (And7 (I ∉ ad') (s'.heap.Ns H2.objs.size m') ((s'.heap.get? (H2.objs.size + 1) = some ox ∧ ox.data = .cell wx)) (s'.heap.PlainList s2.heap.objs.size accU) (RVs ad' accV accU.toList) (St i s'.heap) ((Inv i accV σ') ∧ (accV.length ≤ i)))) ?_ n ⟨0, ad, σ, [], #[], _, _, _, rfl, Nat.zero_le _, n1 _, fD.2, fC.2, fX.2, hI, hns1, ⟨hcx1, rfl⟩, hacc, .nil, st1, inv0, Nat.le_refl _⟩
    rintro k s' ⟨i, ad', σ', accV, accU, m', ox, wx, rfl, hi, n3, hD', hC', hX', hI', hns', ⟨hox', hdx'⟩, hpl', rvs', st', inv', hlen'⟩
    have neI : ∀ b o, C.G.get? b = some o ∨ b ∈ ad' → b ≠ I := by
      rintro b o (e | e) rfl
      · rw [hIG] at e; cases e
      · exact hI' e
    have neX : ∀ b o, C.G.get? b = some o ∨ b ∈ ad' → b ≠ H2.objs.size + 1 := by
      rintro b o (e | e) rfl
      · rw [fX.1] at e; cases e
      · exact hX' e
    by_cases hlt : i < n
    · obtain ⟨cd, tb⟩ := turn i accV σ' hlt inv'
      refine wk.item i ad' σ' s' _ _ hlt (let ⟨nw, p, _⟩ := n3.pre; ⟨nw, p⟩) n3.hr cd st' fun u h' tk ru st'' hsb => ?_
      refine wk.tup (i + 1) { s' with heap := h', toks := tk } _ _ _ _ st'' ?_
      have kx : (compEnvC sc ((x, H2.objs.size + 1) :: clOf env sc.names []) H2.objs.size env).kindOf x = some .cell := by
        show (relabel sc env).names.lookup x = _
        have relabE : (relabel sc env).names = relab sc.names := by
          show List.map _ _ = List.map _ _
          refine List.map_congr_left fun p hp => ?_
          obtain ⟨n, k⟩ := p
          by_cases hk : (k == NameKind.free) = true
          · have hk' : k = .free := by simpa using hk
            subst hk'
            simp [hkn n _ (ok.free n hp).2, er.kind]
          · simp [hk]
        rw [relabE]; exact relab_lookup ok.xl
      have hox2 : h'.get? (H2.objs.size + 1) = some ox := hsb.extBut _ _ (adr_ne (.inr (by lia))) hox'
      refine wpAny_assign_Name (wpAny_storeName_cell (c := H2.objs.size + 1) (show sc.kind = _ from hkind) kx (by show List.lookup x ((x, _) :: _) = _; simp) ⟨ox, hox2, hdx'⟩ fun h2 hv2 hs2 => ?_)
      obtain ⟨ox2, hox2, hdx2⟩ := hv2
      have k2 : ∀ b o, b ≠ I → b ≠ H2.objs.size + 1 → s'.heap.get? b = some o → h2.get? b = some o := fun b o h1 h2 e => hs2.extBut b o h2 (hsb.extBut b o h1 e)
      have hr4 : HR (C.wg l) ad' σ' h2 := n3.hr.same fun b o hb e => k2 b o (neI b o hb) (neX b o hb) e
      have hz4 : s'.heap.objs.size ≤ h2.objs.size := by
        have a1 := hsb.1
        have a2 : h2.objs.size = h'.objs.size := hs2.1
        lia
      have hn2 : h2.Ns H2.objs.size m' := hns'.at' fun o e => k2 _ o (adr_ne (.inr (by lia))) (adr_ne (.inl (by lia))) e
      have er4 : ER (C.wg l) env ρ ad' h2 := er.keep n3.pre (fun b hb o e => k2 b o (fun e' => hIfa (e' ▸ hb)) (fun e' => hCxfa (e' ▸ hb)) (n3.same b o e (er.off b hb).2 (by simp; rintro rfl; exact hIfa hb))) (by have := n3.size; lia)
      obtain ⟨erc, kn⟩ := comp_erC (l2 := l2) hkn ok hkind hnd hcap er4 hn2 hox2 hdx2 ru fC.1 hC' hClfa fX.1 hX' hCxfa (adr_ne (.inr (by lia)))
      have st4 : St (i + 1) h2 := wk.own _ _ _ st'' (by
        obtain ⟨oI', hoI'⟩ := wk.ex _ _ st''
        rw [hoI']; exact hs2.extBut _ _ (adr_ne (b := H2.objs.size + 1) (.inl (by lia))) hoI')
      have hpl4 : h2.PlainList s2.heap.objs.size accU := by
        obtain ⟨c, hc⟩ := hpl'
        exact ⟨c, k2 _ _ (adr_ne (.inr (by lia))) (adr_ne (.inl (by lia))) hc⟩
      have hz5 : H2.objs.size + 1 < h2.objs.size := nlt (Heap.lt_size hox2)
      refine wpAny_mono ((tb _ kn).run ad' _ (hr4.toWg hl2) erc) ?_ fun _ _ f => f.elim
      rintro b s5 ⟨ad5, σ5, n5, h5⟩
      have n35 := fun t => (n3.touch (tk := t) hr4 (by lia) (fun b o h1 h2 e => k2 b o h1 (adr_ne (.inl (by have h2' := nlt h2; lia))) e))
      have done5 : ∀ (adN : List Addr) (σN : AH) (sN : Shared) t, Nx (C.wg l2) [] ad' { s' with heap := h2, toks := t } adN σN sN →
          Nx (C.wg l) [I] ad s2 adN σN sN ∧ s2.heap.objs.size ∉ adN ∧ H2.objs.size ∉ adN ∧ H2.objs.size + 1 ∉ adN ∧ I ∉ adN ∧ sN.heap.Ns H2.objs.size m' ∧ sN.heap.get? (H2.objs.size + 1) = some ox2 ∧ sN.heap.PlainList s2.heap.objs.size accU ∧ St (i + 1) sN.heap ∧ ∃ nw, adN = ad' ++ nw := by
        intro adN σN sN t nN
        have nN' := nN.toWg hr.ok
        obtain ⟨nw, p, q⟩ := nN.pre
        have notin : ∀ a : Nat, a ∉ ad' → a < h2.objs.size → a ∉ adN := by
          intro a h1 h2 hm
          rw [p] at hm
          rcases List.mem_append.mp hm with hm | hm
          · exact h1 hm
          · exact absurd (q a hm) (Nat.not_le.mpr h2)
        refine ⟨(n35 t).trans (nN'.wider (by simp)), notin _ hD' (by lia), notin _ hC' (by lia), notin _ hX' (by lia), notin _ hI' (by lia), hn2.at' fun o e => nN.same _ o e hC' (by simp), nN.same _ _ hox2 hX' (by simp), ?_, ?_, nw, p⟩
        · obtain ⟨c, hc⟩ := hpl4
          exact ⟨c, nN.same _ _ hc hD' (by simp)⟩
        · obtain ⟨oI', hoI'⟩ := wk.ex _ _ st4
          exact wk.own _ _ _ st4 ((nN.same _ _ hoI' hI' (by simp)).trans hoI'.symm)
      cases b with
      | false =>
        obtain ⟨a1, a2, a3, a3x, a4, a5, a5x, a6, a7, nw, a8⟩ := done5 ad5 σ5 s5 _ n5
        exact ⟨n - (i + 1), by lia, i + 1, ad5, σ5, accV, accU, _, _, _, rfl, hlt, a1, a2, a3, a3x, a4, a5, ⟨a5x, hdx2⟩, a6, by rw [a8]; exact rvs'.mono, a7, h5, by lia⟩
      | true =>
        have h5' : WE (C.wg l2) A _ elt ((x, some (P i)) :: capt) σ5 (fun v σ3 => Inv (i + 1) (accV ++ [v]) σ3) (fun _ _ => False) := h5
        refine wpAny_mono (h5'.run ad5 s5 n5.hr (erc.next n5)) ?_ fun _ _ f => f.elim
        rintro y s6 ⟨ad6, σ6, v, n6, r6, inv6⟩
        obtain ⟨a1, a2, a3, a3x, a4, a5, a5x, a6, a7, nw, a8⟩ := done5 ad6 σ6 s6 _ (n5.trans n6)
        refine wpAny_list_append_plain a6 (fun h' hp hs => ?_) (by rw [← Array.length_toList, ← rvs'.length]; lia)
        have hr7 : HR (C.wg l) ad6 σ6 h' := a1.hr.same fun b o hb e => hs.extBut b o (by
          rintro rfl
          rcases hb with e | e
          · have : C.G.get? s2.heap.objs.size = some o := e
            rw [fD.1] at this; cases this
          · exact a2 e) e
        refine ⟨n - (i + 1), by lia, i + 1, ad6, σ6, accV ++ [v], accU.push y, _, _, _, rfl, hlt, a1.touch hr7 (Nat.le_of_eq hs.1.symm) (fun b o h1 h2 e => hs.extBut b o (adr_ne (.inl (nlt h2))) e), a2, a3, a3x, a4, a5.at' fun o e => hs.extBut _ o (Ne.symm hDC) e, ⟨hs.extBut _ _ (adr_ne (.inr (by lia))) a5x, hdx2⟩, hp, ?_, ?_, inv6, by simp; lia⟩
        · rw [Array.toList_push, a8]
          exact rvs'.mono.append (.cons (a8 ▸ r6) .nil)
        · obtain ⟨oI', hoI'⟩ := wk.ex _ _ a7
          exact wk.own _ _ _ a7 ((hs.extBut _ _ (adr_ne (.inl (by lia))) hoI').trans hoI'.symm)
    · obtain rfl : i = n := by lia
      refine wpAny_sz (wk.done ad' σ' s' _ _ (let ⟨nw, p, _⟩ := n3.pre; ⟨nw, p⟩) n3.hr (hcd _ _ inv') st' fun h' tk hk hz => ?_)
      obtain ⟨c, hc⟩ := hpl'
      have hc' := hk _ _ (adr_ne (.inr (by lia))) hc
      have hr4 : HR (C.wg l) ad' σ' h' := n3.hr.same fun b o hb e => hk b o (neI b o hb) e
      have n4 := n3.touch (tk := tk) hr4 hz fun b o h1 _ e => hk b o h1 e
      have hr5 := HR.own (o := .list accV) hr4 hc' fD.1 hD' (hr.freshLow (Nat.le_refl _)) ⟨_, c, rfl, rvs'⟩
      have hlen : σ'.length = ad'.length := hr4.len.symm
      obtain ⟨nw, p, q⟩ := n3.pre
      refine hRR _ _ (ad' ++ [s2.heap.objs.size]) σ' accV _ m' (hns'.at' fun o e => hk _ o (adr_ne (.inr (by lia))) e) (show (s2.heap.objs.size : Nat) ≤ H2.objs.size by lia) ?_ ⟨n4.eq, ⟨nw ++ [s2.heap.objs.size], by rw [p, List.append_assoc], ?_⟩, n4.size, n4.same, hr5⟩ (RV.last hlen) inv'
      · intro hm
        rcases List.mem_append.mp hm with hm | hm
        · exact hC' hm
        · simp at hm; lia
      · intro a ha
        rcases List.mem_append.mp ha with ha | ha
        · exact q a ha
        · simp at ha; exact Nat.le_of_eq ha.symm
  exact codeAny_compStart_list (loop _ rfl) (wk.self 0 _ _ _ st1 (loop _ rfl))
theorem WE_ListCompC {l l2 : List (Str × Value)} {onames : List (Str × NameKind)} {sc : Scope} {x : Str} {px : Pos} {elt iter : PySem.Expr} {ifs : List PySem.Expr} {pos : Pos} {capt : Loc}
    (hkn : Kn env onames) (hok : compOkC onames sc x (capt.map (·.1)) (l2.map (·.1)) = true) (hnd : (capt.map (·.1)).Nodup) (hcap : ∀ p ∈ capt, p ∈ ρ) (hl2 : ∀ p ∈ l2, p ∈ l ∨ GloIs C p)
    (h : WItr (C.wg l) A env iter ρ σ (CompGo C A l2 sc x ifs elt capt (fun acc σ' => Q (.ref σ'.length) (σ' ++ [.list acc]))) E)
    (hkind : sc.kind = .function := by rfl) (hs : isSetE iter = false := by rfl) : WE (C.wg l) A env (.ListComp elt [⟨.Name x px, iter, ifs, 0⟩] sc pos) ρ σ Q E := by
  refine ⟨?_⟩
  intro ad s hr er
  have ok := compOkC.ok hok
  have hclos : closureFor sc env = pure (clOf env sc.names []) := by
    refine closure_of fun n hn => ?_
    obtain ⟨p, hp, rfl⟩ := List.mem_map.mp (ok.free n hn).1
    rcases er.kd p.1 p.2 (hcap p hp) with e | ⟨_, e⟩
    · rw [hkn _ _ (ok.free _ hn).2] at e; cases e
    · exact e
  rw [eval_ListComp]
  refine wpAny_comprehension_free (use := none) rfl (folded_not hs) hclos hkind ok.locs (wpAny_mono (h.run ad s hr er) (fun xv s1 h1 => wpAny_mono h1 ?_ fun _ _ e => e) fun _ _ e => e)
  rintro it s2 ⟨ad1, σ1, n, P, Cd, I, St, rfl, wk, st0, hI, hIad, n2, hsz, Inv, inv0, turn, fin⟩
  have er2 := er.next n2
  have hIfa : I ∉ fa env := fun hm => absurd (er.lt I hm) (Nat.not_lt.mpr hI)
  have hIG : C.G.get? I = none := (hr.fresh hI).1
  refine comp_coreC (C := C) (RR := fun acc Cl => compPost (model C.prog C.w) A E none (PE (C.wg l) ad s Q) acc Cl) hkn ok hkind hnd hcap hl2 n2.hr er2 wk st0 hIad hIfa hIG hsz inv0 (fun i acc σ' hi hv => turn i acc σ' (P i) hi rfl hv) (fun acc σ' hi => (fin acc σ' hi).1) ?_
  intro D Cl ad' σ' vs s' m hn hCl hClad n3 rv inv
  refine ⟨m, hn, fun h' hs' => ?_⟩
  have hClG : C.G.get? Cl = none := (n2.hr.fresh hCl).1
  have hr' : HR (C.wg l) ad' (σ' ++ [.list vs]) h' := n3.hr.same fun b o hb e => hs'.extBut b o (by
    rintro rfl
    rcases hb with e | e
    · have : C.G.get? b = some o := e
      rw [hClG] at this; cases this
    · exact hClad e) e
  have n4 := n3.touch (tk := s'.toks) hr' (Nat.le_of_eq hs'.1.symm) fun b o _ h2 e => hs'.extBut b o (adr_ne (.inl (Nat.lt_of_lt_of_le h2 hCl))) e
  exact ⟨ad', _, _, Nx.drop1 n2 hI n4, rv, (fin vs σ' inv).2⟩
end
end Mine

-- part Pl14
set_option autoImplicit false
set_option linter.unusedVariables false
namespace Mine
/- the shapes -/
noncomputable def half (w : Nat) : Nat → Nat
  | 0 => w
  | i + 1 => (half w i + 1) / 2
noncomputable def bsh (W H l : Nat) : Nat → Nat × Nat
  | 0 => (half W l / 2, half H (l + 1))
  | 1 => (half W (l + 1), half H l / 2)
  | _ => (half W l / 2, half H l / 2)
/- the trees -/
noncomputable def abv (W H L kd : Nat) : Nat → Option Nat
  | 0 => none
  | t + 1 => if 0 < min (bsh W H (L - 1 - t) kd).1 (bsh W H (L - 1 - t) kd).2 then some t else abv W H L kd t
noncomputable def szM (W H L m : Nat) : Nat := (bsh W H (L - 1 - m / 3) (m % 3)).1 * (bsh W H (L - 1 - m / 3) (m % 3)).2
noncomputable def offM (W H L : Nat) : Nat → Nat
  | 0 => half W L * half H L
  | m + 1 => offM W H L m + szM W H L m
noncomputable def addC (base aw ah d r c : Nat) : Int := (base : Int) + min ((r : Int).fdiv d) ((ah : Int) - 1) * aw + min ((c : Int).fdiv d) ((aw : Int) - 1)
noncomputable def addP (base aw ah d w h : Nat) : List Int := (List.range h).flatMap fun r => (List.range w).map fun c => addC base aw ah d r c
noncomputable def blkM (W H L m : Nat) : List Int := match abv W H L (m % 3) (m / 3) with
  | none => addP 0 (half W L) (half H L) 1 (bsh W H (L - 1 - m / 3) (m % 3)).1 (bsh W H (L - 1 - m / 3) (m % 3)).2
  | some t => addP (offM W H L (3 * t + m % 3)) (bsh W H (L - 1 - t) (m % 3)).1 (bsh W H (L - 1 - t) (m % 3)).2 2 (bsh W H (L - 1 - m / 3) (m % 3)).1 (bsh W H (L - 1 - m / 3) (m % 3)).2
noncomputable def psM (W H L m : Nat) : List Int := List.replicate (half W L * half H L) (-1) ++ (List.range m).flatMap (blkM W H L)
noncomputable def dsM (W H L m : Nat) : List Int := List.replicate (half W L * half H L) (L : Int) ++ (List.range m).flatMap fun m => List.replicate (szM W H L m) ((L - 1 - m / 3 : Nat) : Int)
theorem addP_len (base aw ah d w h : Nat) : (addP base aw ah d w h).length = w * h := by
  unfold addP
  induction h with
  | zero => rfl
  | succ h ih => rw [List.range_succ, List.flatMap_append, List.length_append, ih]; simp [Nat.mul_succ]
theorem blkM_len (W H L m : Nat) : (blkM W H L m).length = szM W H L m := by
  unfold blkM szM
  split <;> rw [addP_len]
theorem psM_succ (W H L m : Nat) : psM W H L (m + 1) = psM W H L m ++ blkM W H L m := by
  unfold psM; rw [List.range_succ, List.flatMap_append, List.append_assoc]; simp
theorem dsM_succ (W H L m : Nat) : dsM W H L (m + 1) = dsM W H L m ++ List.replicate (szM W H L m) ((L - 1 - m / 3 : Nat) : Int) := by
  unfold dsM; rw [List.range_succ, List.flatMap_append, List.append_assoc]; simp
theorem psM_len (W H L : Nat) : ∀ m, (psM W H L m).length = offM W H L m
  | 0 => by simp [psM, offM]
  | m + 1 => by rw [psM_succ, List.length_append, psM_len W H L m, blkM_len, offM]
theorem dsM_len (W H L : Nat) : ∀ m, (dsM W H L m).length = offM W H L m
  | 0 => by simp [dsM, offM]
  | m + 1 => by rw [dsM_succ, List.length_append, dsM_len W H L m, List.length_replicate, offM]
noncomputable def kids (P : List Int) (k : Nat) : List Nat := (List.range P.length).filter fun c => P.getD c 0 == (k : Int)
/-- what is asked of the trees, at one shape -/
noncomputable def treeOk (W H L : Nat) : Bool :=
  let P := psM W H L (3 * L)
  let D := dsM W H L (3 * L)
  let n := W * H
  offM W H L (3 * L) == n && (List.range n).all (fun k => decide (-1 ≤ P.getD k 0) && decide (P.getD k 0 < (k : Int)) && (decide (P.getD k 0 < 0) || decide (D.getD k 0 < D.getD (P.getD k 0).toNat 0)))
    && ((List.range n).filter fun k => decide (P.getD k 0 < 0)) == List.range (half W L * half H L) && decide (half W L * half H L ≤ n)
noncomputable def allOk : Bool := (List.range 7).all fun w => (List.range 7).all fun h => (List.range 4).all fun l => treeOk (w + 1) (h + 1) l
theorem allOk_true : allOk = true := by decide +kernel
theorem treeOk_true {W H L : Nat} (hw : 1 ≤ W) (hw2 : W ≤ 7) (hh : 1 ≤ H) (hh2 : H ≤ 7) (hl : L ≤ 3) : treeOk W H L = true := by
  have h := allOk_true
  unfold allOk at h
  have h1 := List.all_eq_true.mp h (W - 1) (List.mem_range.mpr (by lia))
  have h2 := List.all_eq_true.mp h1 (H - 1) (List.mem_range.mpr (by lia))
  have h3 := List.all_eq_true.mp h2 L (List.mem_range.mpr (by lia))
  rw [show W - 1 + 1 = W by lia, show H - 1 + 1 = H by lia] at h3
  exact h3
structure TreeOk (W H L : Nat) : Prop where
  tot : offM W H L (3 * L) = W * H
  lo : ∀ k, k < W * H → -1 ≤ (psM W H L (3 * L)).getD k 0
  up : ∀ k, k < W * H → (psM W H L (3 * L)).getD k 0 < (k : Int)
  dep : ∀ k, k < W * H → 0 ≤ (psM W H L (3 * L)).getD k 0 → (dsM W H L (3 * L)).getD k 0 < (dsM W H L (3 * L)).getD ((psM W H L (3 * L)).getD k 0).toNat 0
  roots : ((List.range (W * H)).filter fun k => decide ((psM W H L (3 * L)).getD k 0 < 0)) = List.range (half W L * half H L)
  low : half W L * half H L ≤ W * H
theorem tree_ok {W H L : Nat} (hw : 1 ≤ W) (hw2 : W ≤ 7) (hh : 1 ≤ H) (hh2 : H ≤ 7) (hl : L ≤ 3) : TreeOk W H L := by
  have h := treeOk_true hw hw2 hh hh2 hl
  unfold treeOk at h
  simp only [Bool.and_eq_true, beq_iff_eq, List.all_eq_true, decide_eq_true_eq, List.mem_range, Bool.or_eq_true] at h
  obtain ⟨⟨⟨h1, h2⟩, h3⟩, h4⟩ := h
  refine ⟨h1, fun k hk => (h2 k hk).1.1, fun k hk => (h2 k hk).1.2, fun k hk h0 => ?_, h3, h4⟩
  rcases (h2 k hk).2 with h5 | h5
  · lia
  · exact h5
/- the greatest under each -/
noncomputable def av (v : List Int) (c : Nat) : Int := if v.getD c 0 < 0 then -v.getD c 0 else v.getD c 0
noncomputable def grt (P v : List Int) : Nat → Nat → Int
  | 0, _ => 0
  | f + 1, k => (kids P k).foldl (fun o c => max (max o (av v c)) (grt P v f c)) 0
noncomputable def guStep (P v : List Int) (out : List Int) (k : Nat) : List Int :=
  if 0 ≤ P.getD k 0 then out.set (P.getD k 0).toNat (max (max (out.getD (P.getD k 0).toNat 0) (out.getD k 0)) (av v k)) else out
noncomputable def guP (P v : List Int) (n i : Nat) : List Int := (List.range i).foldl (fun out i => guStep P v out (n - 1 - i)) (List.replicate n 0)
theorem guP_succ (P v : List Int) (n i : Nat) : guP P v n (i + 1) = guStep P v (guP P v n i) (n - 1 - i) := by
  unfold guP; rw [List.range_succ, List.foldl_append]; rfl
theorem guStep_len {P v out : List Int} {k : Nat} : (guStep P v out k).length = out.length := by unfold guStep; split <;> simp
theorem guP_len (P v : List Int) (n : Nat) : ∀ i, (guP P v n i).length = n
  | 0 => by simp [guP]
  | i + 1 => by rw [guP_succ, guStep_len, guP_len P v n i]
noncomputable def mx (l : List Int) : Int := l.foldr max 0
theorem mx_nonneg : ∀ l : List Int, 0 ≤ mx l
  | [] => Int.le_refl 0
  | a :: l => Int.le_trans (mx_nonneg l) (Int.le_max_right _ _)
theorem foldl_mx (f g : Nat → Int) : ∀ (l : List Nat) (a : Int), 0 ≤ a → l.foldl (fun o c => max (max o (f c)) (g c)) a = max a (mx (l.map fun c => max (f c) (g c)))
  | [], a, h => (Int.max_eq_left h).symm
  | c :: l, a, h => by
    rw [List.foldl_cons, foldl_mx f g l _ (Int.le_trans h (Int.le_trans (Int.le_max_left _ _) (Int.le_max_left _ _)))]
    simp only [List.map_cons, mx, List.foldr_cons, Int.max_assoc]
theorem max_turn (a b c : Int) : max (max a b) c = max (max c b) a := by rw [Int.max_comm (max a b), Int.max_comm (max c b), Int.max_comm a b, Int.max_comm c b, ← Int.max_assoc, ← Int.max_assoc, Int.max_comm c b, Int.max_comm a b, Int.max_assoc, Int.max_assoc, Int.max_comm c a]
theorem grt_mx (P v : List Int) (hP : ∀ k, k < P.length → P.getD k 0 < (k : Int)) {u : Nat} (hu : u < P.length) (hfuel : ∀ m, P.length = m + 1 → ∀ c ∈ kids P u, grt P v (m + 1) c = grt P v m c) : grt P v P.length u = mx ((kids P u).map fun c => max (av v c) (grt P v P.length c)) := by
  obtain ⟨m, hm⟩ : ∃ m, P.length = m + 1 := ⟨P.length - 1, by lia⟩
  rw [hm, grt, foldl_mx _ _ _ _ (Int.le_refl 0), Int.max_eq_right (mx_nonneg _)]
  congr 1
  exact List.map_congr_left fun c hc => by rw [hfuel m hm c hc]
theorem mem_kids {P : List Int} {k c : Nat} : c ∈ kids P k ↔ c < P.length ∧ P.getD c 0 = (k : Int) := by
  simp [kids]
theorem grt_fuel (P v : List Int) (hP : ∀ k, k < P.length → P.getD k 0 < (k : Int)) : ∀ (f g k : Nat), P.length ≤ k + f → P.length ≤ k + g → grt P v f k = grt P v g k := by
  have nokid : ∀ k, P.length ≤ k → kids P k = [] := by
    intro k hk
    rw [List.eq_nil_iff_forall_not_mem]
    intro c hc
    obtain ⟨h1, h2⟩ := mem_kids.mp hc
    have := hP c h1
    lia
  intro f
  induction f with
  | zero =>
    intro g k hf hg
    cases g with
    | zero => rfl
    | succ g => rw [grt, grt, nokid k (by lia)]; rfl
  | succ f ih =>
    intro g k hf hg
    cases g with
    | zero => rw [grt, grt, nokid k (by lia)]; rfl
    | succ g =>
      rw [grt, grt]
      have : ∀ l : List Nat, (∀ c ∈ l, c ∈ kids P k) → ∀ a, l.foldl (fun o c => max (max o (av v c)) (grt P v f c)) a = l.foldl (fun o c => max (max o (av v c)) (grt P v g c)) a := by
        intro l
        induction l with
        | nil => intro _ a; rfl
        | cons c l ih2 =>
          intro hl a
          obtain ⟨h1, h2⟩ := mem_kids.mp (hl c (.head _))
          have := hP c h1
          rw [List.foldl_cons, List.foldl_cons, ih g c (by lia) (by lia)]
          exact ih2 (fun c hc => hl c (.tail _ hc)) _
      exact this _ (fun c hc => hc) 0
/-- the children from a place on -/
noncomputable def kidsFrom (P : List Int) (s k : Nat) : List Nat := (List.range' s (P.length - s)).filter fun c => P.getD c 0 == (k : Int)
theorem kidsFrom_step {P : List Int} {s k : Nat} (hs : s < P.length) : kidsFrom P s k = if P.getD s 0 = (k : Int) then s :: kidsFrom P (s + 1) k else kidsFrom P (s + 1) k := by
  unfold kidsFrom
  have e : P.length - s = (P.length - (s + 1)) + 1 := by lia
  rw [e, List.range'_succ, List.filter_cons]
  split <;> simp_all
theorem kidsFrom_up {P : List Int} {k : Nat} (hP : ∀ c, c < P.length → P.getD c 0 < (c : Int)) : ∀ s, s ≤ k + 1 → s ≤ P.length → kidsFrom P s k = kids P k := by
  intro s
  induction s with
  | zero => intro _ _; unfold kidsFrom kids; rw [List.range_eq_range']; rfl
  | succ s ih =>
    intro h1 h2
    rw [← ih (by lia) (by lia), kidsFrom_step (s := s) (by lia), if_neg]
    have := hP s (by lia)
    lia
theorem fuel_kids (P v : List Int) (hP : ∀ c, c < P.length → P.getD c 0 < (c : Int)) {u : Nat} : ∀ m, P.length = m + 1 → ∀ c ∈ kids P u, grt P v (m + 1) c = grt P v m c := by
  intro m hm c hc
  obtain ⟨h1, h2⟩ := mem_kids.mp hc
  have := hP c h1
  exact grt_fuel P v hP (m + 1) m c (by lia) (by lia)
theorem guP_spec (P v : List Int) (hP : ∀ c, c < P.length → P.getD c 0 < (c : Int)) : ∀ i, i < P.length → ∀ u, u < P.length →
    (guP P v P.length i).getD u 0 = mx ((kidsFrom P (P.length - i) u).map fun c => max (av v c) (grt P v P.length c)) := by
  intro i
  induction i with
  | zero =>
    intro hi u hu
    have : kidsFrom P (P.length - 0) u = [] := by simp [kidsFrom]
    rw [this]
    simp [guP, mx, hu]
  | succ i ih =>
    intro hi u hu
    have ihu := ih (Nat.lt_of_succ_lt hi)
    rw [guP_succ]
    have hk : P.length - 1 - i < P.length := by lia
    have e1 : P.length - (i + 1) = P.length - 1 - i := by lia
    have e2 : P.length - i = P.length - 1 - i + 1 := by lia
    rw [e1, kidsFrom_step hk]
    rw [e2] at ihu
    clear e1 e2 ih hi
    generalize P.length - 1 - i = k at *
    have hlen := guP_len P v P.length i
    unfold guStep
    have hPk := hP k hk
    generalize hg : guP P v P.length i = g at *
    by_cases h0 : 0 ≤ P.getD k 0
    · rw [if_pos h0]
      obtain ⟨w, hw⟩ : ∃ w : Nat, P.getD k 0 = (w : Int) := Int.eq_ofNat_of_zero_le h0
      have gk : g.getD k 0 = grt P v P.length k := by
        rw [ihu k hk, kidsFrom_up hP _ (Nat.le_refl _) hk, grt_mx P v hP hk (fuel_kids P v hP)]
      rw [hw, Int.toNat_natCast, gk]
      by_cases hu2 : w = u
      · subst hu2
        rw [if_pos rfl]
        have : (List.set g w (max (max (g.getD w 0) (grt P v P.length k)) (av v k))).getD w 0 = max (max (g.getD w 0) (grt P v P.length k)) (av v k) := by
          simp [List.getD, hlen, hu]
        rw [this, ihu w hu]
        simp only [List.map_cons, mx, List.foldr_cons]
        exact max_turn _ _ _
      · rw [if_neg (fun h => hu2 (Int.ofNat_inj.mp h))]
        have : (List.set g w (max (max (g.getD w 0) (grt P v P.length k)) (av v k))).getD u 0 = g.getD u 0 := by
          rw [List.getD, List.getElem?_set_ne hu2]; rfl
        rw [this, ihu u hu]
    · rw [if_neg h0, if_neg (fun h => h0 (by rw [h]; exact Int.natCast_nonneg u)), ihu u hu]
theorem gu_grt (P v : List Int) (hP : ∀ c, c < P.length → P.getD c 0 < (c : Int)) {u : Nat} (hu : u < P.length) : (guP P v P.length (P.length - 1)).getD u 0 = grt P v P.length u := by
  rw [guP_spec P v hP _ (by lia) u hu, kidsFrom_up hP _ (by lia) (by lia), ← grt_mx P v hP hu (fuel_kids P v hP)]
/- cut into rows, and laid in a row -/
/- how many children -/
end Mine

-- part Aw32
set_option autoImplicit false
set_option linter.unusedVariables false
namespace Mine
open PySem PySem.W PyProof.Rows

theorem tget_append (es : TD) (ks : List Atom) (j : Nat) (v : V) (k : List Atom) (h : tget es ks = none) : tget (es ++ [(ks, j, v)]) k = if k = ks then some v else tget es k := by
  induction es with
  | nil =>
    by_cases hk : ks = k
    · subst hk; simp [tget]
    · have : ¬ k = ks := fun e => hk e.symm
      simp [tget, hk, this]
  | cons e es ih =>
    by_cases h1 : e.1 = ks
    · simp [tget, h1] at h
    · have h' : tget es ks = none := by simpa [tget, h1] using h
      by_cases h2 : e.1 = k
      · have : ¬ k = ks := fun e' => h1 (h2.trans e')
        simp [tget, h2, this]
      · have := ih h'
        simpa [tget, h2] using this
theorem tget_map (es : TD) (ks : List Atom) (v : V) (k : List Atom) (h : (tget es ks).isSome = true) : tget (es.map fun e => if e.1 = ks then (e.1, e.2.1, v) else e) k = if k = ks then some v else tget es k := by
  induction es with
  | nil => simp [tget] at h
  | cons e es ih =>
    by_cases h1 : e.1 = ks
    · by_cases h2 : k = ks
      · subst h2; simp [tget, h1]
      · have h3 : ¬ ks = k := fun e' => h2 e'.symm
        have h4 : ∀ es : TD, tget (es.map fun e => if e.1 = ks then (e.1, e.2.1, v) else e) k = tget es k := by
          intro es
          induction es with
          | nil => rfl
          | cons e es ih =>
            by_cases h5 : e.1 = ks
            · simpa [tget, h5, h3] using ih
            · by_cases h6 : e.1 = k
              · have h7 : ¬ k = ks := h2
                simp [tget, h6, h7]
              · simpa [tget, h5, h6] using ih
        rw [if_neg h2, h4]
    · have h' : (tget es ks).isSome = true := by simpa [tget, h1] using h
      by_cases h2 : e.1 = k
      · have : ¬ k = ks := fun e' => h1 (h2.trans e')
        simp [tget, h2, this]
      · have := ih h'
        simpa [tget, h1, h2] using this
theorem tget_tput (es : TD) (ks : List Atom) (j : Nat) (v : V) (k : List Atom) : tget (tput es ks j v) k = if k = ks then some v else tget es k := by
  unfold tput
  by_cases h : (tget es ks).isSome = true
  · rw [if_pos h]; exact tget_map es ks v k h
  · rw [if_neg h]; exact tget_append es ks j v k (by simpa using h)
theorem tget_none {es : TD} {ks : List Atom} (h : tget es ks = none) : ks ∉ es.map (·.1) := by
  intro hm
  obtain ⟨e, he, rfl⟩ := List.mem_map.mp hm
  have : (es.find? fun x => decide (x.1 = e.1)) = none := by simpa [tget] using h
  have := List.find?_eq_none.mp this e he
  simp at this
theorem tput_nodup {es : TD} {ks : List Atom} {j : Nat} {v : V} (nd : (es.map (·.1)).Nodup) : ((tput es ks j v).map (·.1)).Nodup := by
  unfold tput
  split
  · have : (es.map fun e => if e.1 = ks then (e.1, e.2.1, v) else e).map (·.1) = es.map (·.1) := by
      rw [List.map_map]
      apply List.map_congr_left
      intro e _
      show (if e.1 = ks then (e.1, e.2.1, v) else e).1 = e.1
      split <;> rfl
    rw [this]; exact nd
  · rename_i h
    rw [List.map_append]
    refine List.nodup_append.mpr ⟨nd, by simp, ?_⟩
    intro a ha b hb e
    simp at hb
    subst hb; subst e
    exact tget_none (by simpa using h) ha
theorem tput_len {es : TD} {ks : List Atom} {j : Nat} {v : V} : (tput es ks j v).length ≤ es.length + 1 := by
  unfold tput; split <;> simp
theorem Keyed.put {σ : AH} {es : TD} {ks : List Atom} {j : Nat} {v : V} (h : Keyed σ es) (b : σ[j]? = some (.tuple (ks.map atomV))) : Keyed σ (tput es ks j v) := by
  unfold tput
  split
  · intro e he
    obtain ⟨e', he', rfl⟩ := List.mem_map.mp he
    have := h e' he'
    by_cases h1 : e'.1 = ks
    · rw [if_pos h1]; exact this
    · rw [if_neg h1]; exact this
  · intro e he
    rcases List.mem_append.mp he with he | he
    · exact h e he
    · rw [List.mem_singleton.mp he]; exact b
section
variable {C : Cx} {A : Around} {env : Env} {ρ : Loc} {σ : AH} {E : EX} {Q : V → AH → Prop}
theorem rngDown (a b : Int) : (Builtin.Range.rangeSize a b (-1)).toNat = (a - b).toNat := by
  unfold Builtin.Range.rangeSize
  rw [if_neg (by decide)]
  simp only [Int.neg_neg, Int.ediv_one]
  split <;> lia
theorem WItr_down {C : Cx} {l : List (Str × Value)} {id : Str} {p pos : Pos} {args : List PySem.Expr} {K : Nat → (Nat → V) → (AH → Prop) → AH → Prop} (hA : A.handled = none) (hf : (id, Value.type "range") ∈ l)
    (h : WL (C.wg l) A env args ρ σ (fun vs σ1 => ∃ a b : Int, vs = [.int a, .int b, .int (-1)] ∧ (-(2 ^ 60) ≤ a ∧ a ≤ 2 ^ 60) ∧ (-(2 ^ 60) ≤ b ∧ b ≤ 2 ^ 60) ∧ K (a - b).toNat (fun i => .int (a - (i : Nat))) (fun _ => True) σ1) E)
    (hns : noStar args = true := by rfl) : WItr (C.wg l) A env (.Call (.Name id p) args [] pos) ρ σ K E := by
  refine WItr_range hA hf (h.conseq ?_) hns
  rintro vs σ1 ⟨a, b, rfl, ha, hb, hk⟩
  refine ⟨a, b, -1, rfl, by decide, ha, hb, by decide, ?_⟩
  rw [rngDown]
  have e : (fun i : Nat => V.int (a + (i : Int) * -1)) = fun i : Nat => V.int (a - i) := by funext i; congr 1; lia
  rw [e]; exact hk
theorem exDown {a b : Int} {P : Int → Int → Prop} (h : P a b) : ∃ a' b' : Int, [V.int a, V.int b, V.int (-1)] = [V.int a', V.int b', V.int (-1)] ∧ P a' b' := ⟨a, b, rfl, h⟩
theorem ite_WE {b : Bool} {e1 e2 : PySem.Expr} {x : V} (h1 : b = true → WE C A env e1 ρ σ (fun v σ1 => v = x ∧ σ1 = σ) E) (h2 : b = false → WE C A env e2 ρ σ (fun v σ1 => v = x ∧ σ1 = σ) E) (h : Q x σ) : if b = true then WE C A env e1 ρ σ Q E else WE C A env e2 ρ σ Q E := by
  cases b with
  | true => rw [if_pos rfl]; exact (h1 rfl).conseq fun v σ1 ⟨a, b⟩ => by subst a; subst b; exact h
  | false => rw [if_neg (by decide)]; exact (h2 rfl).conseq fun v σ1 ⟨a, b⟩ => by subst a; subst b; exact h
end
end Mine

-- part Aw33
set_option autoImplicit false
set_option linter.unusedVariables false
namespace Mine
open PySem PySem.W PyProof.Rows

/-- room for n more calls -/
structure Room (A : Around) (n : Nat) : Prop where
  han : A.handled = none
  dep : A.depth + n < recursionLimit
  uni : A.units + (4 * n + 100) < cLine
theorem Room.deep {A : Around} {n : Nat} {env : Env} (r : Room A (n + 1)) : Room (A.deeper env) n := by
  refine ⟨r.han, ?_, ?_⟩
  · have := r.dep
    show A.depth + 1 + n < _; lia
  · have := r.uni
    show A.units + 3 + _ < _; lia
theorem Room.make {A : Around} {n : Nat} {Cl : Addr} {us : List Value} (r : Room A (n + 1)) : Room (A.under (.builtin "type.__call__" ⟨.ref Cl :: us, []⟩)) n := by
  have cu : (Code.builtin "type.__call__" ⟨Value.ref Cl :: us, []⟩).cUnits ≤ 4 := Nat.le_of_ble_eq_true rfl
  refine ⟨r.han, ?_, ?_⟩
  · have := r.dep
    show A.depth + 1 + n < _; lia
  · have := r.uni
    show A.units + Code.cUnits _ + _ < _; lia
theorem Room.le {A : Around} {n m : Nat} (r : Room A n) (h : m ≤ n := by exact Nat.le_of_ble_eq_true rfl) : Room A m := by
  refine ⟨r.han, ?_, ?_⟩
  · have := r.dep; lia
  · have := r.uni; lia
theorem Room.dep0 {A : Around} {n : Nat} (r : Room A n) : A.depth < recursionLimit := Nat.lt_of_le_of_lt (Nat.le_add_right _ _) r.dep
theorem Room.u {A : Around} {n k : Nat} (r : Room A n) (h : k ≤ 100 := by exact Nat.le_of_ble_eq_true rfl) : A.units + k < cLine := by have := r.uni; lia
theorem clampN (a n : Nat) : (let i := if (a : Int) < 0 then (a : Int) + n else a; if (1 : Int) > 0 then max 0 (min i n) else max (-1) (min i ((n : Int) - 1))) = ((min a n : Nat) : Int) := by
  dsimp only
  rw [if_neg (Int.not_lt.mpr (Int.natCast_nonneg a)), if_pos (by decide)]; lia
theorem pickV_mid2 {α : Type} (xs : List α) {a b : Nat} (hab : a ≤ b) : pickV xs (some (a : Int)) (some (b : Int)) none = (xs.drop a).take (b - a) := by
  have e : sliceBounds (some (a : Int)) (some (b : Int)) none xs.length = (((min a xs.length : Nat) : Int), ((min b xs.length : Nat) : Int), 1) := by
    exact Prod.ext (clampN a _) (Prod.ext (clampN b _) rfl)
  unfold pickV
  rw [e]
  dsimp only
  rw [sliceRange_nat _ _ (by lia), fm_range _ _ _ (by lia)]
  rcases Nat.le_total a xs.length with h | h
  · rw [Nat.min_eq_left h]
    rcases Nat.le_total b xs.length with h2 | h2
    · rw [Nat.min_eq_left h2]
    · rw [Nat.min_eq_right h2, List.take_of_length_le (by rw [List.length_drop]; exact Nat.le_refl _), List.take_of_length_le (by rw [List.length_drop]; lia)]
  · rw [Nat.min_eq_right h, List.drop_eq_nil_of_le (Nat.le_refl _), List.drop_eq_nil_of_le h]; simp
/- small numbers -/
theorem sz_le {n m : Nat} (h : n ≤ m) (hm : m ≤ 100000) : n ≤ sizeLine := by have : sizeLine = 16777216 := rfl; lia
section
variable {C : Cx} {A : Around} {env : Env} {ρ : Loc} {σ : AH} {E : EX} {Q : V → AH → Prop}
theorem WC_lenE {v : V} {xs : List V} {n : Nat} (b : ObjAt C σ v (.list xs)) (e : xs.length = n) (hz : n ≤ 100000) (h : Q (.int (n : Nat)) σ) : WC C A (.builtin "len") [v] σ Q E := by
  subst e; exact WC_len b (by lia) h
theorem WC_lenI {v : V} {xs : List Int} {n : Nat} (b : ObjAt C σ v (.list (xs.map .int))) (e : xs.length = n) (hz : n ≤ 100000) (h : Q (.int (n : Nat)) σ) : WC C A (.builtin "len") [v] σ Q E := WC_lenE b (by rw [List.length_map]; exact e) hz h
theorem item_listN {value slice : PySem.Expr} {v : V} {xs : List V} {k : Nat} {x : V} (b : ObjAt C σ v (.list xs)) (hz : xs.length ≤ 100000) (hx : xs[k]? = some x) (h : Q x σ) (hs : isSliceE slice = false := by rfl) : WSub C A value slice v (.int (k : Nat)) σ Q E :=
  item_list b (Int.natCast_nonneg k) (by have := (List.getElem?_eq_some_iff.mp hx).1; lia) (by rw [Int.toNat_natCast]; exact hx) h hs
theorem item_listE {value slice : PySem.Expr} {v : V} {xs : List V} {k : Int} {u : Nat} {x : V} (b : ObjAt C σ v (.list xs)) (e : k = (u : Int)) (hz : xs.length ≤ 100000) (hx : xs[u]? = some x) (h : Q x σ) (hs : isSliceE slice = false := by rfl) : WSub C A value slice v (.int k) σ Q E := by
  subst e; exact item_listN b hz hx h hs
theorem item_intN {value slice : PySem.Expr} {v : V} {P : List Int} {k : Nat} (b : ObjAt C σ v (.list (P.map .int))) (hz : P.length ≤ 100000) (hk : k < P.length) (h : Q (.int (P.getD k 0)) σ) (hs : isSliceE slice = false := by rfl) : WSub C A value slice v (.int (k : Nat)) σ Q E :=
  item_listN b (by rw [List.length_map]; exact hz) (by simp [List.getD, hk]) h hs
theorem item_intE {value slice : PySem.Expr} {v : V} {P : List Int} {k : Int} {u : Nat} (b : ObjAt C σ v (.list (P.map .int))) (e : k = (u : Int)) (hz : P.length ≤ 100000) (hk : u < P.length) (h : Q (.int (P.getD u 0)) σ) (hs : isSliceE slice = false := by rfl) : WSub C A value slice v (.int k) σ Q E := by
  subst e; exact item_intN b hz hk h hs
theorem item_tupN {value slice : PySem.Expr} {v : V} {xs : List V} {k : Nat} {x : V} (b : ObjAt C σ v (.tuple xs)) (hz : xs.length ≤ 100000) (hx : xs[k]? = some x) (h : Q x σ) (hs : isSliceE slice = false := by rfl) : WSub C A value slice v (.int (k : Nat)) σ Q E :=
  item_tuple b (Int.natCast_nonneg k) (by have := (List.getElem?_eq_some_iff.mp hx).1; lia) (by rw [Int.toNat_natCast]; exact hx) h hs
theorem WC_appE {j : Nat} {xs : List V} {x : V} {n : Nat} (b : σ[j]? = some (.list xs)) (hz : xs.length ≤ n) (hn : n ≤ 100000) (h : Q .none (σ.set j (.list (xs ++ [x])))) : WC C A (.builtin "list.append") [.ref j, x] σ Q E := WC_append b (sz_le hz hn) h
theorem seti_intN {j : Nat} {P : List Int} {k : Nat} {x : Int} {Q : AH → Prop} (b : σ[j]? = some (.list (P.map .int))) (hz : P.length ≤ 100000) (hk : k < P.length) (h : Q (σ.set j (.list ((P.set k x).map .int)))) : WSi C A (.ref j) (.int (k : Nat)) (.int x) σ Q E := by
  refine seti_list b (Int.natCast_nonneg k) (by lia) (by rw [List.length_map]; lia) ?_
  rw [Int.toNat_natCast, ← List.map_set]; exact h
theorem seti_intE {j : Nat} {P : List Int} {k : Int} {u : Nat} {x : Int} {Q : AH → Prop} (b : σ[j]? = some (.list (P.map .int))) (e : k = (u : Int)) (hz : P.length ≤ 100000) (hk : u < P.length) (h : Q (σ.set j (.list ((P.set u x).map .int)))) : WSi C A (.ref j) (.int k) (.int x) σ Q E := by
  subst e; exact seti_intN b hz hk h
theorem mul_nn {a b : Nat} (ha : a ≤ 100000) (h : Q (.int (a * b : Nat)) σ) : WOp2 C A (binaryOp .Mult) (.int (a : Nat)) (.int (b : Nat)) σ Q E := mul_ii (mul_small (by lia) (by lia)) (by rw [show (a : Int) * (b : Int) = ((a * b : Nat) : Int) by simp]; exact h)
theorem exRng {n : Nat} {P : Nat → Prop} (hz : n ≤ 100000) (h : P n) : ∃ m : Nat, [V.int n] = [V.int m] ∧ m ≤ 2 ^ 60 ∧ P m := ⟨n, rfl, Nat.le_trans hz (Nat.le_of_ble_eq_true rfl), h⟩
end
theorem mem0 {α : Type} {p : α} {r : List α} : p ∈ p :: r := List.mem_cons_self
theorem mem1 {α : Type} {p : α} {a0 : α} {r : List α} : p ∈ a0 :: p :: r := List.mem_cons_of_mem _ mem0
theorem mem2 {α : Type} {p : α} {a0 a1 : α} {r : List α} : p ∈ a0 :: a1 :: p :: r := List.mem_cons_of_mem _ mem1
theorem mem3 {α : Type} {p : α} {a0 a1 a2 : α} {r : List α} : p ∈ a0 :: a1 :: a2 :: p :: r := List.mem_cons_of_mem _ mem2
theorem mem4 {α : Type} {p : α} {a0 a1 a2 a3 : α} {r : List α} : p ∈ a0 :: a1 :: a2 :: a3 :: p :: r := List.mem_cons_of_mem _ mem3
theorem mem5 {α : Type} {p : α} {a0 a1 a2 a3 a4 : α} {r : List α} : p ∈ a0 :: a1 :: a2 :: a3 :: a4 :: p :: r := List.mem_cons_of_mem _ mem4
theorem mem6 {α : Type} {p : α} {a0 a1 a2 a3 a4 a5 : α} {r : List α} : p ∈ a0 :: a1 :: a2 :: a3 :: a4 :: a5 :: p :: r := List.mem_cons_of_mem _ mem5
theorem mem7 {α : Type} {p : α} {a0 a1 a2 a3 a4 a5 a6 : α} {r : List α} : p ∈ a0 :: a1 :: a2 :: a3 :: a4 :: a5 :: a6 :: p :: r := List.mem_cons_of_mem _ mem6
theorem mem8 {α : Type} {p : α} {a0 a1 a2 a3 a4 a5 a6 a7 : α} {r : List α} : p ∈ a0 :: a1 :: a2 :: a3 :: a4 :: a5 :: a6 :: a7 :: p :: r := List.mem_cons_of_mem _ mem7
theorem mem9 {α : Type} {p : α} {a0 a1 a2 a3 a4 a5 a6 a7 a8 : α} {r : List α} : p ∈ a0 :: a1 :: a2 :: a3 :: a4 :: a5 :: a6 :: a7 :: a8 :: p :: r := List.mem_cons_of_mem _ mem8
theorem mem10 {α : Type} {p : α} {a0 a1 a2 a3 a4 a5 a6 a7 a8 a9 : α} {r : List α} : p ∈ a0 :: a1 :: a2 :: a3 :: a4 :: a5 :: a6 :: a7 :: a8 :: a9 :: p :: r := List.mem_cons_of_mem _ mem9
theorem mem11 {α : Type} {p : α} {a0 a1 a2 a3 a4 a5 a6 a7 a8 a9 a10 : α} {r : List α} : p ∈ a0 :: a1 :: a2 :: a3 :: a4 :: a5 :: a6 :: a7 :: a8 :: a9 :: a10 :: p :: r := List.mem_cons_of_mem _ mem10
theorem mem12 {α : Type} {p : α} {a0 a1 a2 a3 a4 a5 a6 a7 a8 a9 a10 a11 : α} {r : List α} : p ∈ a0 :: a1 :: a2 :: a3 :: a4 :: a5 :: a6 :: a7 :: a8 :: a9 :: a10 :: a11 :: p :: r := List.mem_cons_of_mem _ mem11
theorem mem13 {α : Type} {p : α} {a0 a1 a2 a3 a4 a5 a6 a7 a8 a9 a10 a11 a12 : α} {r : List α} : p ∈ a0 :: a1 :: a2 :: a3 :: a4 :: a5 :: a6 :: a7 :: a8 :: a9 :: a10 :: a11 :: a12 :: p :: r := List.mem_cons_of_mem _ mem12
theorem mem14 {α : Type} {p : α} {a0 a1 a2 a3 a4 a5 a6 a7 a8 a9 a10 a11 a12 a13 : α} {r : List α} : p ∈ a0 :: a1 :: a2 :: a3 :: a4 :: a5 :: a6 :: a7 :: a8 :: a9 :: a10 :: a11 :: a12 :: a13 :: p :: r := List.mem_cons_of_mem _ mem13
theorem mem15 {α : Type} {p : α} {a0 a1 a2 a3 a4 a5 a6 a7 a8 a9 a10 a11 a12 a13 a14 : α} {r : List α} : p ∈ a0 :: a1 :: a2 :: a3 :: a4 :: a5 :: a6 :: a7 :: a8 :: a9 :: a10 :: a11 :: a12 :: a13 :: a14 :: p :: r := List.mem_cons_of_mem _ mem14
theorem up0 {x : Str} {v w : Option V} {r : Loc} : Up x v ((x, w) :: r) ((x, v) :: r) := .head
theorem up1 {x : Str} {v w : Option V} {a0 : Str × Option V} {r : Loc} : Up x v (a0 :: (x, w) :: r) (a0 :: (x, v) :: r) := .tail up0
theorem up2 {x : Str} {v w : Option V} {a0 a1 : Str × Option V} {r : Loc} : Up x v (a0 :: a1 :: (x, w) :: r) (a0 :: a1 :: (x, v) :: r) := .tail up1
theorem up3 {x : Str} {v w : Option V} {a0 a1 a2 : Str × Option V} {r : Loc} : Up x v (a0 :: a1 :: a2 :: (x, w) :: r) (a0 :: a1 :: a2 :: (x, v) :: r) := .tail up2
theorem up4 {x : Str} {v w : Option V} {a0 a1 a2 a3 : Str × Option V} {r : Loc} : Up x v (a0 :: a1 :: a2 :: a3 :: (x, w) :: r) (a0 :: a1 :: a2 :: a3 :: (x, v) :: r) := .tail up3
theorem up5 {x : Str} {v w : Option V} {a0 a1 a2 a3 a4 : Str × Option V} {r : Loc} : Up x v (a0 :: a1 :: a2 :: a3 :: a4 :: (x, w) :: r) (a0 :: a1 :: a2 :: a3 :: a4 :: (x, v) :: r) := .tail up4
theorem up6 {x : Str} {v w : Option V} {a0 a1 a2 a3 a4 a5 : Str × Option V} {r : Loc} : Up x v (a0 :: a1 :: a2 :: a3 :: a4 :: a5 :: (x, w) :: r) (a0 :: a1 :: a2 :: a3 :: a4 :: a5 :: (x, v) :: r) := .tail up5
theorem up7 {x : Str} {v w : Option V} {a0 a1 a2 a3 a4 a5 a6 : Str × Option V} {r : Loc} : Up x v (a0 :: a1 :: a2 :: a3 :: a4 :: a5 :: a6 :: (x, w) :: r) (a0 :: a1 :: a2 :: a3 :: a4 :: a5 :: a6 :: (x, v) :: r) := .tail up6
theorem up8 {x : Str} {v w : Option V} {a0 a1 a2 a3 a4 a5 a6 a7 : Str × Option V} {r : Loc} : Up x v (a0 :: a1 :: a2 :: a3 :: a4 :: a5 :: a6 :: a7 :: (x, w) :: r) (a0 :: a1 :: a2 :: a3 :: a4 :: a5 :: a6 :: a7 :: (x, v) :: r) := .tail up7
theorem up9 {x : Str} {v w : Option V} {a0 a1 a2 a3 a4 a5 a6 a7 a8 : Str × Option V} {r : Loc} : Up x v (a0 :: a1 :: a2 :: a3 :: a4 :: a5 :: a6 :: a7 :: a8 :: (x, w) :: r) (a0 :: a1 :: a2 :: a3 :: a4 :: a5 :: a6 :: a7 :: a8 :: (x, v) :: r) := .tail up8
theorem up10 {x : Str} {v w : Option V} {a0 a1 a2 a3 a4 a5 a6 a7 a8 a9 : Str × Option V} {r : Loc} : Up x v (a0 :: a1 :: a2 :: a3 :: a4 :: a5 :: a6 :: a7 :: a8 :: a9 :: (x, w) :: r) (a0 :: a1 :: a2 :: a3 :: a4 :: a5 :: a6 :: a7 :: a8 :: a9 :: (x, v) :: r) := .tail up9
theorem up11 {x : Str} {v w : Option V} {a0 a1 a2 a3 a4 a5 a6 a7 a8 a9 a10 : Str × Option V} {r : Loc} : Up x v (a0 :: a1 :: a2 :: a3 :: a4 :: a5 :: a6 :: a7 :: a8 :: a9 :: a10 :: (x, w) :: r) (a0 :: a1 :: a2 :: a3 :: a4 :: a5 :: a6 :: a7 :: a8 :: a9 :: a10 :: (x, v) :: r) := .tail up10
theorem up12 {x : Str} {v w : Option V} {a0 a1 a2 a3 a4 a5 a6 a7 a8 a9 a10 a11 : Str × Option V} {r : Loc} : Up x v (a0 :: a1 :: a2 :: a3 :: a4 :: a5 :: a6 :: a7 :: a8 :: a9 :: a10 :: a11 :: (x, w) :: r) (a0 :: a1 :: a2 :: a3 :: a4 :: a5 :: a6 :: a7 :: a8 :: a9 :: a10 :: a11 :: (x, v) :: r) := .tail up11
theorem up13 {x : Str} {v w : Option V} {a0 a1 a2 a3 a4 a5 a6 a7 a8 a9 a10 a11 a12 : Str × Option V} {r : Loc} : Up x v (a0 :: a1 :: a2 :: a3 :: a4 :: a5 :: a6 :: a7 :: a8 :: a9 :: a10 :: a11 :: a12 :: (x, w) :: r) (a0 :: a1 :: a2 :: a3 :: a4 :: a5 :: a6 :: a7 :: a8 :: a9 :: a10 :: a11 :: a12 :: (x, v) :: r) := .tail up12
theorem up14 {x : Str} {v w : Option V} {a0 a1 a2 a3 a4 a5 a6 a7 a8 a9 a10 a11 a12 a13 : Str × Option V} {r : Loc} : Up x v (a0 :: a1 :: a2 :: a3 :: a4 :: a5 :: a6 :: a7 :: a8 :: a9 :: a10 :: a11 :: a12 :: a13 :: (x, w) :: r) (a0 :: a1 :: a2 :: a3 :: a4 :: a5 :: a6 :: a7 :: a8 :: a9 :: a10 :: a11 :: a12 :: a13 :: (x, v) :: r) := .tail up13
theorem up15 {x : Str} {v w : Option V} {a0 a1 a2 a3 a4 a5 a6 a7 a8 a9 a10 a11 a12 a13 a14 : Str × Option V} {r : Loc} : Up x v (a0 :: a1 :: a2 :: a3 :: a4 :: a5 :: a6 :: a7 :: a8 :: a9 :: a10 :: a11 :: a12 :: a13 :: a14 :: (x, w) :: r) (a0 :: a1 :: a2 :: a3 :: a4 :: a5 :: a6 :: a7 :: a8 :: a9 :: a10 :: a11 :: a12 :: a13 :: a14 :: (x, v) :: r) := .tail up14
end Mine

-- part Aw34
set_option autoImplicit false
set_option linter.unusedVariables false
namespace Mine
open PySem PySem.W PyProof.Rows

/- dicts whose keys are texts and tuples -/
noncomputable def MIs (prog : Program) (w : World) (h : Heap) : MK → Value → Prop
  | .s x, u => ∃ t, u = .str x t
  | .t ks, u => ∃ a, u = .ref a ∧ IsTupleKey (atomKind prog w) h ks a
theorem MIs.inj {prog : Program} {w : World} {h : Heap} {k k' : MK} {u : Value} (a : MIs prog w h k u) (b : MIs prog w h k' u) : k = k' := by
  cases k with
  | s x => cases k' with
    | s y => obtain ⟨t, rfl⟩ := a; obtain ⟨t', e⟩ := b; injection e with e1; rw [e1]
    | t ks => obtain ⟨t, rfl⟩ := a; obtain ⟨c, e, _⟩ := b; cases e
  | t ks => cases k' with
    | s y => obtain ⟨c, rfl, _⟩ := a; obtain ⟨t', e⟩ := b; cases e
    | t ks' => obtain ⟨c, rfl, h1⟩ := a; obtain ⟨c', e, h2⟩ := b; cases e; rw [h1.inj h2]
section
variable {prog : Program} {w : World} {A : Around} {E : EX} {s : Shared}
theorem MIs.hash {k : MK} {u : Value} {Q : Int → Shared → Prop} (hu : A.units < cLine) (x : MIs prog w s.heap k u) (h : ∀ n, Q (mkHash w.params k) { s with toks := n }) : wpAny (model prog w) A (pyHash u) Q E s := by
  cases k with
  | s x => obtain ⟨t, rfl⟩ := x; exact (strKind prog w).pyHash (k := x) (strKind_is prog w x t) (h _)
  | t ks => obtain ⟨a, rfl, r⟩ := x; exact wpAny_pyHash_tuple hu r (h _)
theorem MIs.eqb {k k' : MK} {u v : Value} {Q : Bool → Shared → Prop} (hu : A.units < cLine) (x : MIs prog w s.heap k u) (y : MIs prog w s.heap k' v) (h : Q (decide (k = k')) s) : wpAny (model prog w) A (eqBool u v) Q E s := by
  cases k with
  | s x1 => cases k' with
    | s y1 => obtain ⟨t, rfl⟩ := x; obtain ⟨t', rfl⟩ := y; exact (strKind prog w).eqBool (a := x1) (b := y1) (strKind_is prog w x1 t) (strKind_is prog w y1 t') (by simpa using h)
    | t ks =>
      obtain ⟨t, rfl⟩ := x; obtain ⟨a, rfl, o, items, n, h1, h2, h3, _⟩ := y
      exact SeqAt.EqAt.str_tuple (items := items) x1 t ⟨o, h1, h2, n, h3⟩ hu prog w E Q (by simpa using h)
  | t ks => cases k' with
    | s y1 =>
      obtain ⟨t, rfl⟩ := y; obtain ⟨a, rfl, o, items, n, h1, h2, h3, _⟩ := x
      exact SeqAt.EqAt.tuple_str (items := items) y1 t ⟨o, h1, h2, n, h3⟩ hu prog w E Q (by simpa using h)
    | t ks' => obtain ⟨a, rfl, r⟩ := x; obtain ⟨a', rfl, r'⟩ := y; exact wpAny_eqBool_tuple hu r r' (by simpa using h)
theorem MIs.quiet {k : MK} {u : Value} {Q : Bool → Shared → Prop} (x : MIs prog w s.heap k u) (h : Q true s) : wpAny (model prog w) A (eqIsQuiet 8 u) Q E s := by
  cases k with
  | s x1 => obtain ⟨t, rfl⟩ := x; rw [eqIsQuiet_byValue _ rfl]; exact wpAny_pure h
  | t ks => obtain ⟨a, rfl, r⟩ := x; exact wpAny_eqIsQuiet_tuple r h
abbrev XE := MK × Value × Value
noncomputable def entX (P : Params) (x : XE) : DictEntry := ⟨mkHash P x.1, x.2.1, x.2.2⟩
theorem tells {u : Value} {k : MK} {stored : List Value} {Q : Bool → Shared → Prop} (hkey : MIs prog w s.heap k u) (hst : ∀ v ∈ stored, ∃ k', MIs prog w s.heap k' v) (h : Q false s) : wpAny (model prog w) A (tableMayTell u stored) Q E s := by
  unfold tableMayTell
  split
  · exact wpAny_pure h
  · refine wpAny_bind (hkey.quiet ?_)
    simp only [Bool.not_true, Bool.false_eq_true, if_false]
    refine wpAny_bind ?_
    refine wpAny_forIn_list _ (fun rest r s' => s' = s ∧ r = (none, ()) ∧ ∀ v ∈ rest, ∃ k', MIs prog w s.heap k' v) _ ?_ ?_ _ _ ⟨rfl, rfl, hst⟩
    · rintro x rest r s' ⟨rfl, rfl, hr⟩
      obtain ⟨k', hb⟩ := hr x List.mem_cons_self
      refine wpAny_bind (hb.quiet ?_)
      simp only [Bool.not_true, Bool.false_eq_true, if_false]
      exact wpAny_pure ⟨rfl, rfl, fun v hv => hr v (List.mem_cons_of_mem _ hv)⟩
    · rintro r s' ⟨rfl, rfl, _⟩
      exact wpAny_pure h
/-- where the key lies -/
noncomputable def At (xs : List XE) (k : MK) (j : Nat) : Prop := ∃ p, xs[j]? = some (k, p)
theorem At.uniq {xs : List XE} {k : MK} {i j : Nat} (hn : (xs.map (·.1)).Nodup) (hi : At xs k i) (hj : At xs k j) : i = j := by
  obtain ⟨p, hi⟩ := hi
  obtain ⟨q, hj⟩ := hj
  have hi' : (xs.map (·.1))[i]? = some k := by rw [List.getElem?_map, hi]; rfl
  have hj' : (xs.map (·.1))[j]? = some k := by rw [List.getElem?_map, hj]; rfl
  exact (List.getElem?_inj (List.getElem?_eq_some_iff.mp hi').1 hn).mp (hi'.trans hj'.symm)
structure Tab (prog : Program) (w : World) (s : Shared) (d : Addr) (o : Obj) (es : Array DictEntry) (ep : Nat) (xs : List XE) : Prop where
  ho : s.heap.get? d = some o
  hd : o.data = .dict es ep
  he : es.toList = xs.map (entX w.params)
  his : ∀ x ∈ xs, MIs prog w s.heap x.1 x.2.1
  hn : (xs.map (·.1)).Nodup
variable {d : Addr} {o : Obj} {es : Array DictEntry} {ep : Nat} {xs : List XE}
theorem Tab.sz (T : Tab prog w s d o es ep xs) : es.size = xs.length := by rw [← Array.length_toList, T.he, List.length_map]
theorem Tab.at (T : Tab prog w s d o es ep xs) (j : Nat) : es[j]? = (xs[j]?).map (entX w.params) := by rw [← Array.getElem?_toList, T.he, List.getElem?_map]
theorem Tab.places (T : Tab prog w s d o es ep xs) {h : Int} {i : Nat} (hi : i ∈ placesWithHash es.size (fun i => es[i]?.map (·.hash)) h) : ∃ k' u' v', xs[i]? = some (k', u', v') ∧ es[i]? = some ⟨mkHash w.params k', u', v'⟩ ∧ mkHash w.params k' = h ∧ MIs prog w s.heap k' u' := by
  unfold placesWithHash at hi
  obtain ⟨h1, h2⟩ := List.mem_filter.mp hi
  have hlt := List.mem_range.mp h1
  obtain ⟨⟨k', u', v'⟩, hx⟩ : ∃ y, xs[i]? = some y := ⟨xs[i]'(by rw [← T.sz]; exact hlt), List.getElem?_eq_getElem _⟩
  have he := T.at i
  rw [hx] at he
  dsimp only at h2
  rw [he] at h2
  exact ⟨k', u', v', hx, he, by simpa [entX] using h2, T.his _ (List.mem_of_getElem? hx)⟩
theorem Tab.inPlaces (T : Tab prog w s d o es ep xs) {k : MK} {j : Nat} (hj : At xs k j) : j ∈ placesWithHash es.size (fun i => es[i]?.map (·.hash)) (mkHash w.params k) := by
  obtain ⟨p, hj⟩ := hj
  unfold placesWithHash
  refine List.mem_filter.mpr ⟨List.mem_range.mpr ?_, ?_⟩
  · rw [T.sz]; exact (List.getElem?_eq_some_iff.mp hj).1
  · dsimp only; rw [T.at, hj]; simp [entX]
theorem Tab.pnd {n : Nat} {f : Nat → Option Int} {h : Int} : (placesWithHash n f h).Nodup := by unfold placesWithHash; exact List.nodup_range.filter _
/-- how far the search is -/
noncomputable def Prog (xs : List XE) (k : MK) (pl rest : List Nat) (hit : Option Nat) : Prop := ∃ pre, pl = pre ++ rest ∧ ((hit = none ∧ ∀ j ∈ pre, ¬ At xs k j) ∨ ∃ j, hit = some j ∧ j ∈ pre ∧ At xs k j)
theorem Prog.skip {k k' : MK} {pl rest : List Nat} {hit : Option Nat} {x : Nat} {p : Value × Value} (h : Prog xs k pl (x :: rest) hit) (hx : xs[x]? = some (k', p)) (hne : ¬ k' = k) : Prog xs k pl rest hit := by
  obtain ⟨pre, e, h⟩ := h
  refine ⟨pre ++ [x], by simp [e], ?_⟩
  rcases h with ⟨h1, h2⟩ | ⟨j, h1, h2, h3⟩
  · refine .inl ⟨h1, fun j hj => ?_⟩
    rcases List.mem_append.mp hj with hj | hj
    · exact h2 j hj
    · rw [List.mem_singleton] at hj
      subst hj
      rintro ⟨q, hq⟩
      rw [hx] at hq
      injection hq with hq
      injection hq with hq
      exact hne hq
  · exact .inr ⟨j, h1, List.mem_append_left _ h2, h3⟩
theorem Prog.none_at {k : MK} {pl rest : List Nat} {hit : Option Nat} {x : Nat} (h : Prog xs k pl (x :: rest) hit) (hn : (xs.map (·.1)).Nodup) (pn : pl.Nodup) (hx : At xs k x) : hit = none := by
  obtain ⟨pre, e, h⟩ := h
  rcases h with ⟨h1, _⟩ | ⟨j, _, h2, h3⟩
  · exact h1
  · have := At.uniq hn h3 hx
    subst this
    rw [e] at pn
    exact absurd rfl (List.nodup_append.mp pn |>.2.2 _ h2 _ List.mem_cons_self)
theorem Prog.hit {k : MK} {pl rest : List Nat} {hit : Option Nat} {x : Nat} (h : Prog xs k pl (x :: rest) hit) (hx : At xs k x) : Prog xs k pl rest (some x) := by
  obtain ⟨pre, e, h⟩ := h
  exact ⟨pre ++ [x], by simp [e], .inr ⟨x, rfl, by simp, hx⟩⟩
theorem Prog.fin {k : MK} {hit : Option Nat} (T : Tab prog w s d o es ep xs) {Q : Option Nat → Shared → Prop} (h : Prog xs k (placesWithHash es.size (fun i => es[i]?.map (·.hash)) (mkHash w.params k)) [] hit) (hnone : (∀ j, ¬ At xs k j) → Q none s) (hsome : ∀ j, At xs k j → Q (some j) s) : Q hit s := by
  obtain ⟨pre, e, h⟩ := h
  rw [List.append_nil] at e
  rcases h with ⟨rfl, h2⟩ | ⟨j, rfl, _, h3⟩
  · exact hnone fun j hj => h2 j (e ▸ T.inPlaces hj) hj
  · exact hsome j h3
theorem find_plain {k : MK} {u : Value} {Q : Option Nat → Shared → Prop} (hu : A.units < cLine) (T : Tab prog w s d o es ep xs) (hkey : MIs prog w s.heap k u) (hnone : (∀ j, ¬ At xs k j) → Q none s) (hsome : ∀ j, At xs k j → Q (some j) s) :
    wpAny (model prog w) A (dictWalkPlain d u (mkHash w.params k) es (placesWithHash es.size (fun i => es[i]?.map (·.hash)) (mkHash w.params k))) Q E s := by
  unfold dictWalkPlain
  refine wpAny_bind ?_
  refine wpAny_forIn_list _ (fun rest b s' => s' = s ∧ b = (none, ()) ∧ Prog xs k (placesWithHash es.size (fun i => es[i]?.map (·.hash)) (mkHash w.params k)) rest none) _ ?_ ?_ _ _ ⟨rfl, rfl, [], rfl, .inl ⟨rfl, fun j hj => nomatch hj⟩⟩
  · rintro x rest b s' ⟨rfl, rfl, hp⟩
    have hmem : x ∈ placesWithHash es.size (fun i => es[i]?.map (·.hash)) (mkHash w.params k) := by
      obtain ⟨pre, e, _⟩ := hp
      rw [e]; simp
    obtain ⟨k', u', v', hx, hex, hh, hi⟩ := T.places hmem
    simp only [hex]
    rw [if_pos (by simp [hh])]
    refine wpAny_bind (wpAny_dictEpoch T.ho T.hd (wpAny_bind (hi.eqb hu hkey (wpAny_bind (wpAny_dictEpoch T.ho T.hd ?_)))))
    rw [if_neg (by simp)]
    by_cases hk : k' = k
    · rw [decide_eq_true hk]
      subst hk
      simp only [if_true]
      refine wpAny_bind (wpAny_rule ?_)
      exact wpAny_pure (wpAny_pure (hsome x ⟨_, hx⟩))
    · rw [decide_eq_false hk]
      simp only [Bool.false_eq_true, if_false]
      refine wpAny_bind (wpAny_rule ?_)
      exact wpAny_pure ⟨rfl, rfl, hp.skip hx hk⟩
  · rintro b s' ⟨rfl, rfl, hp⟩
    exact wpAny_pure (Prog.fin T hp hnone hsome)
theorem wp_if {α : Type} {M : Model} {c : Prop} [Decidable c] {m1 m2 : Sem α} {Q : α → Shared → Prop} (h1 : c → wpAny M A m1 Q E s) (h2 : ¬ c → wpAny M A m2 Q E s) : wpAny M A (if c then m1 else m2) Q E s := by
  by_cases h : c
  · rw [if_pos h]; exact h1 h
  · rw [if_neg h]; exact h2 h
theorem Prog.mem {k : MK} {pl rest : List Nat} {hit : Option Nat} {x : Nat} (h : Prog xs k pl (x :: rest) hit) : x ∈ pl := by
  obtain ⟨pre, e, _⟩ := h
  rw [e]; exact List.mem_append_right _ List.mem_cons_self
theorem find_byValue {x : Str} {t : Tok} {Q : Option Nat → Shared → Prop} (hu : A.units < cLine) (T : Tab prog w s d o es ep xs) (hall : (es.all fun e => isExactStrKey e.key) = true) (hnone : (∀ j, ¬ At xs (.s x) j) → Q none s) (hsome : ∀ j, At xs (.s x) j → Q (some j) s) :
    wpAny (model prog w) A (foundByValue d (.str x t) es x) Q E s := by
  unfold foundByValue
  cases hf : es.findIdx? (fun e => e.key.isStr x) with
  | none =>
    refine wpAny_pure (hnone ?_)
    rintro j ⟨⟨u', v'⟩, hj⟩
    have he := T.at j
    rw [hj] at he
    obtain ⟨t', e⟩ := T.his _ (List.mem_of_getElem? hj)
    have := Array.findIdx?_eq_none_iff.mp hf _ (Array.mem_of_getElem? he)
    dsimp only [entX] at this e
    rw [e] at this
    simp [Value.isStr] at this
  | some i =>
    have hi := Array.findIdx?_eq_some_iff_getElem.mp hf
    obtain ⟨hlt, hs, _⟩ := hi
    have hex : es[i]? = some es[i] := Array.getElem?_eq_getElem hlt
    have he := T.at i
    obtain ⟨⟨k', u', v'⟩, hx⟩ : ∃ y, xs[i]? = some y := ⟨xs[i]'(by rw [← T.sz]; exact hlt), List.getElem?_eq_getElem _⟩
    rw [hx] at he
    have hk := T.his _ (List.mem_of_getElem? hx)
    rw [hex] at he
    injection he with he
    dsimp only
    rw [hex]
    dsimp only
    rw [he] at hs ⊢
    dsimp only [entX] at hs hk ⊢
    have hks : k' = .s x := by
      cases u' with
      | str y ty =>
        have : y = x := by simpa [Value.isStr] using hs
        subst this
        exact hk.inj ⟨ty, rfl⟩
      | _ => simp [Value.isStr] at hs
    subst hks
    refine wpAny_bind (wpAny_dictEpoch T.ho T.hd (wpAny_bind (hk.eqb hu (k' := .s x) ⟨t, rfl⟩ (wpAny_bind (wpAny_dictEpoch T.ho T.hd ?_)))))
    rw [if_neg (by simp), decide_eq_true rfl]
    simp only [if_true]
    exact wpAny_bind (wpAny_rule (wpAny_pure (hsome i ⟨_, hx⟩)))
theorem stored_is (T : Tab prog w s d o es ep xs) {h : Int} : ∀ v ∈ (placesWithHash es.size (fun i => es[i]?.map (·.hash)) h).filterMap (fun i => es[i]?.map (·.key)), ∃ k', MIs prog w s.heap k' v := by
  intro v hv
  obtain ⟨i, hi, e⟩ := List.mem_filterMap.mp hv
  obtain ⟨k', u', v', hx, hex, hh, hm⟩ := T.places hi
  rw [hex] at e
  obtain rfl : u' = v := by simpa using e
  exact ⟨k', hm⟩
theorem mfind {k : MK} {u : Value} {Q : Option Nat → Shared → Prop} (hu : A.units < cLine) (T : Tab prog w s d o es ep xs) (hkey : MIs prog w s.heap k u) (hnone : (∀ j, ¬ At xs k j) → Q none s) (hsome : ∀ j, At xs k j → Q (some j) s) :
    wpAny (model prog w) A (dictFind d u (mkHash w.params k)) Q E s := by
  have hany : ∀ a, u = .ref a → ¬ (es.any fun e => e.key == Value.ref a && e.hash != mkHash w.params k) = true := by
    rintro a rfl
    rw [← Array.any_toList, List.any_eq_true]
    rintro ⟨e, hin, hc⟩
    rw [T.he] at hin
    obtain ⟨x, hx, rfl⟩ := List.mem_map.mp hin
    simp only [entX, Bool.and_eq_true, beq_iff_eq, bne_iff_ne, ne_eq] at hc
    have := T.his x hx
    rw [hc.1] at this
    exact hc.2 (by rw [this.inj hkey])
  have hcase : (∃ x t, k = .s x ∧ u = .str x t) ∨ ∃ a, u = .ref a := by
    cases k with
    | s x => obtain ⟨t, e⟩ := hkey; exact .inl ⟨x, t, rfl, e⟩
    | t ks => obtain ⟨a, e, _⟩ := hkey; exact .inr ⟨a, e⟩
  unfold dictFind
  try with_reducible refine wpAny_holding ?_
  refine wpAny_bind (wpAny_dictEntries T.ho T.hd ?_)
  dsimp only
  rcases hcase with ⟨x, t, hk0, rfl⟩ | ⟨a, rfl⟩
  rotate_left
  dsimp only
  rw [if_neg (by simp [carriedByValue]), if_neg (hany a rfl)]
  rotate_left
  dsimp only
  refine wp_if (fun ha => find_byValue hu T ha (hk0 ▸ hnone) (hk0 ▸ hsome)) (fun _ => ?_)
  refine wp_if (fun _ => find_plain hu T hkey hnone hsome) (fun _ => ?_)
  all_goals refine wp_if (fun _ => ?_) (fun _ => ?_)
  all_goals first | refine wpAny_bind (wpAny_pure ?_) | refine wpAny_bind (tells hkey (stored_is T) ?_)
  all_goals
    rw [if_neg (by simp)]
    refine wpAny_bind ?_
    refine wpAny_forIn_list _ (fun rest b s' => s' = s ∧ ∃ hit, b = (none, hit) ∧ Prog xs k (placesWithHash es.size (fun i => es[i]?.map (·.hash)) (mkHash w.params k)) rest hit) _ ?_ ?_ _ _ ⟨rfl, none, rfl, [], rfl, .inl ⟨rfl, fun j hj => nomatch hj⟩⟩
    · rintro x rest b s' ⟨rfl, hit, rfl, hp⟩
      obtain ⟨k', u', v', hx, hex, hh, hi⟩ := T.places hp.mem
      simp only [hex]
      rw [if_pos (by simp [hh])]
      refine wpAny_bind (wpAny_dictEpoch T.ho T.hd (wpAny_bind (hi.eqb hu hkey (wpAny_bind (wpAny_dictEpoch T.ho T.hd ?_)))))
      rw [if_neg (by simp)]
      by_cases hk : k' = k
      · rw [decide_eq_true hk]
        subst hk
        have := hp.none_at T.hn Tab.pnd ⟨_, hx⟩
        subst this
        simp only [if_true, Option.isSome_none, Bool.false_eq_true, if_false]
        refine wpAny_bind (wpAny_rule ?_)
        refine wp_if (fun _ => ?_) (fun _ => ?_)
        · exact wpAny_pure (wpAny_pure (hsome x ⟨_, hx⟩))
        · exact wpAny_pure ⟨rfl, _, rfl, hp.hit ⟨_, hx⟩⟩
      · rw [decide_eq_false hk]
        simp only [Bool.false_eq_true, if_false]
        refine wpAny_bind (wpAny_rule ?_)
        rw [if_neg (by simp)]
        exact wpAny_pure ⟨rfl, _, rfl, hp.skip hx hk⟩
    · rintro b s' ⟨rfl, hit, rfl, hp⟩
      exact wpAny_pure (Prog.fin T hp hnone hsome)
theorem mget_ {k : MK} {u : Value} {Q : Option Value → Shared → Prop} (hu : A.units < cLine) (T : Tab prog w s d o es ep xs) (hkey : MIs prog w s.heap k u) (hnone : (∀ j, ¬ At xs k j) → ∀ n, Q none { s with toks := n }) (hsome : ∀ (j : Nat) (p : Value × Value), xs[j]? = some (k, p) → ∀ n, Q (some p.2) { s with toks := n }) :
    wpAny (model prog w) A (dictGet d u) Q E s := by
  unfold dictGet
  try with_reducible refine wpAny_holding ?_
  refine wpAny_bind (hkey.hash hu fun n => ?_)
  refine wpAny_bind (mfind (s := { s with toks := n }) hu ⟨T.ho, T.hd, T.he, T.his, T.hn⟩ hkey ?_ ?_)
  · intro h; exact wpAny_pure (hnone h n)
  · rintro j ⟨p, hj⟩
    refine wpAny_bind (wpAny_dictEntries (s := { s with toks := n }) T.ho T.hd ?_)
    rw [T.at j, hj]
    exact wpAny_pure (hsome j p hj n)
end
/-- texts and tuples as keys, in the abstract -/
abbrev MD := List (MK × Nat × V)
inductive RY (ad : List Addr) : MD → List XE → Prop
  | nil : RY ad [] []
  | cons {k : MK} {j : Nat} {u : Value} {v : V} {x : Value} {es : MD} {xs : List XE} : MKV ad k j u → RV ad v x → RY ad es xs → RY ad ((k, j, v) :: es) ((k, u, x) :: xs)
theorem RMs.ry {P : Params} {ad : List Addr} {es : MD} {ds : List DictEntry} (h : RMs P ad es ds) : ∃ xs, RY ad es xs ∧ ds = xs.map (entX P) := by
  induction h with
  | nil => exact ⟨[], .nil, rfl⟩
  | cons e r _ ih => obtain ⟨xs, h1, h2⟩ := ih; exact ⟨_, .cons e r h1, by rw [h2]; rfl⟩
theorem RY.rms {P : Params} {ad : List Addr} {es : MD} {xs : List XE} (h : RY ad es xs) : RMs P ad es (xs.map (entX P)) := by
  induction h with
  | nil => exact .nil
  | cons e r _ ih => exact .cons e r ih
theorem RY.names {ad : List Addr} {es : MD} {xs : List XE} (h : RY ad es xs) : xs.map (·.1) = es.map (·.1) := by
  induction h with
  | nil => rfl
  | cons e r _ ih => simp [ih]
theorem RY.get {ad : List Addr} {es : MD} {xs : List XE} (h : RY ad es xs) : ∀ {j : Nat} {k : MK} {p : Value × Value}, xs[j]? = some (k, p) → ∃ t v, es[j]? = some (k, t, v) ∧ RV ad v p.2 := by
  induction h with
  | nil => intro j k p h; simp at h
  | cons e r _ ih =>
    intro j k p h
    cases j with
    | zero => simp at h; obtain ⟨rfl, rfl⟩ := h; exact ⟨_, _, rfl, r⟩
    | succ j => simp at h; obtain ⟨t, v, h1, h2⟩ := ih h; exact ⟨t, v, by simpa using h1, h2⟩
theorem RY.snoc {ad : List Addr} {es : MD} {xs : List XE} {k : MK} {j : Nat} {u : Value} {v : V} {x : Value} (h : RY ad es xs) (e : MKV ad k j u) (r : RV ad v x) : RY ad (es ++ [(k, j, v)]) (xs ++ [(k, u, x)]) := by
  induction h with
  | nil => exact .cons e r .nil
  | cons e' r' _ ih => exact .cons e' r' ih
noncomputable def MKeyed (σ : AH) (es : MD) : Prop := ∀ e ∈ es, match e.1 with
  | .s _ => True
  | .t ks => σ[e.2.1]? = some (.tuple (ks.map atomV))
/-- a value that is the key k -/
noncomputable def KeyV (σ : AH) : MK → Nat → V → Prop
  | .s x, _, v => v = .str x
  | .t ks, j, v => v = .ref j ∧ σ[j]? = some (.tuple (ks.map atomV))
section
variable {C : Cx} {A : Around} {env : Env} {ρ : Loc} {σ : AH} {E : EX} {Q : V → AH → Prop}
theorem KeyV.is {ad : List Addr} {h : Heap} {k : MK} {j : Nat} {v : V} {u : Value} (hr : HR C ad σ h) (kv : KeyV σ k j v) (rv : RV ad v u) : MIs C.prog C.w h k u ∧ MKV ad k j u := by
  cases k with
  | s x => cases kv; exact ⟨rv, rv⟩
  | t ks => obtain ⟨rfl, b⟩ := kv; obtain ⟨a, ha, rfl⟩ := rv; exact ⟨⟨a, rfl, hr.tkey b ha⟩, a, ha, rfl⟩
theorem RY.keyed {ad : List Addr} {h : Heap} {es : MD} {xs : List XE} (hr : HR C ad σ h) (k : MKeyed σ es) (r : RY ad es xs) : ∀ x ∈ xs, MIs C.prog C.w h x.1 x.2.1 := by
  induction r with
  | nil => intro x hx; cases hx
  | @cons k1 j u v x es xs e r0 _ ih =>
    intro y hy
    rcases List.mem_cons.mp hy with rfl | hy
    · have := k _ (.head _)
      cases k1 with
      | s x => exact e
      | t ks => obtain ⟨a, ha, e2⟩ := e; exact ⟨a, e2, hr.tkey this ha⟩
    · exact ih (fun e he => k e (.tail _ he)) y hy
theorem HR.mdict {ad : List Addr} {s : Shared} {j : Nat} {es : MD} {a : Addr} (hr : HR C ad σ s.heap) (b : σ[j]? = some (.mdict es)) (k : MKeyed σ es) (nd : (es.map (·.1)).Nodup) (ha : ad[j]? = some a) :
    ∃ o ds ep xs, o = ⟨.type "dict", none, .dict ds ep, #[]⟩ ∧ Tab C.prog C.w s a o ds ep xs ∧ RY ad es xs := by
  obtain ⟨od, h3, ds, n, rfl, h4⟩ := hr.obj j _ a b ha
  obtain ⟨xs, r, e⟩ := h4.ry
  exact ⟨_, ds, n, xs, rfl, ⟨h3, rfl, e, r.keyed hr k, by rw [r.names]; exact nd⟩, r⟩
noncomputable def mfnd (es : MD) (k : MK) : Option V := (es.find? fun e => decide (e.1 = k)).map (·.2.2)
theorem mfnd_at {es : MD} (nd : (es.map (·.1)).Nodup) : ∀ {j : Nat} {k : MK} {t : Nat} {v : V}, es[j]? = some (k, t, v) → mfnd es k = some v := by
  induction es with
  | nil => intro j k t v h; simp at h
  | cons e es ih =>
    intro j k t v h
    rw [List.map_cons, List.nodup_cons] at nd
    cases j with
    | zero => simp at h; subst h; simp [mfnd]
    | succ j =>
      simp at h
      have hm : k ∈ es.map (·.1) := List.mem_map.mpr ⟨(k, t, v), List.mem_of_getElem? h, rfl⟩
      have hne : ¬ e.1 = k := fun q => nd.1 (q ▸ hm)
      have := ih nd.2 h
      simpa [mfnd, List.find?_cons, hne] using this
theorem RY.none {ad : List Addr} {es : MD} {xs : List XE} {k : MK} (r : RY ad es xs) (h : ∀ j, ¬ At xs k j) : mfnd es k = none := by
  induction r with
  | nil => rfl
  | @cons k1 j u v x es xs e r0 _ ih =>
    have hne : ¬ k1 = k := fun q => h 0 ⟨(u, x), by rw [q]; rfl⟩
    have := ih fun j ⟨p, hj⟩ => h (j + 1) ⟨p, hj⟩
    simpa [mfnd, hne] using this
theorem nin_mdict {j t : Nat} {es : MD} {k : MK} {kv : V} (hu : A.units + 1 < cLine) (b : σ[j]? = some (.mdict es)) (kd : MKeyed σ es) (nd : (es.map (·.1)).Nodup) (hk : KeyV σ k t kv) (h : Q (.bool (!(mfnd es k).isSome)) σ) : WOp2 C A (compareOp .NotIn) kv (.ref j) σ Q E := by
  refine ⟨?_⟩
  rintro ad s x y hr rx ⟨a, ha, rfl⟩
  obtain ⟨o, ds, ep, xs, rfl, T, r⟩ := hr.mdict b kd nd ha
  obtain ⟨hi, _⟩ := hk.is hr rx
  have ty : s.TypeIs (.ref a) "dict" := ⟨_, T.ho, rfl⟩
  have lo : (a == sysModules) = false := by simpa using hr.low a (List.mem_of_getElem? ha)
  show wpAny _ _ (contains (.ref a) x >>= fun b => pure (Value.bool (!b))) _ E s
  refine wpAny_bind ?_
  unfold contains
  try with_reducible refine wpAny_holding ?_
  refine wpAny_bind (wpAny_specialOf ty slot_dict_contains.lookup ?_)
  show wpAny _ _ (if (some (Value.builtin "dict.__contains__") == some Value.none) = true then _ else _) _ E s
  rw [if_neg (by rw [beq_builtin_none]; exact Bool.false_ne_true)]
  refine wpAny_bind (wpAny_callSpecialUnlessNone?_slot (name := Str.ofString "__contains__") ty slot_dict_contains (wpAny_call_entry slot_dict_contains ty entry_dict_contains ?_ (args_dict_contains _ _)))
  show wpAny _ _ (dictGet a x >>= _) _ _ s
  refine wpAny_bind (mget_ hu T hi (fun hno n => ?_) fun j' p hj n => ?_)
  · rw [r.none hno] at h
    show wpAny _ _ (Builtin.Dict.pendingKey? a x >>= _) _ _ _
    exact wpAny_bind (wpAny_pendingKey_other lo (wpAny_pure ⟨_, rfl, wpAny_truthy_bool (wpAny_pure (PE.tok (v := .bool _) _ hr rfl h))⟩))
  · obtain ⟨t', v, he, _⟩ := r.get hj
    rw [mfnd_at nd he] at h
    show wpAny _ _ (ret (.bool true)) _ _ _
    exact wpAny_pure ⟨_, rfl, wpAny_truthy_bool (wpAny_pure (PE.tok (v := .bool _) _ hr rfl h))⟩
theorem item_mdict {value slice : PySem.Expr} {j t : Nat} {es : MD} {k : MK} {kv v : V} (hu : A.units + 1 < cLine) (b : σ[j]? = some (.mdict es)) (kd : MKeyed σ es) (nd : (es.map (·.1)).Nodup) (hk : KeyV σ k t kv) (hv : mfnd es k = some v) (h : Q v σ)
    (hs : isSliceE slice = false := by rfl) : WSub C A value slice (.ref j) kv σ Q E := by
  refine ⟨?_⟩
  rintro ad s y x hr ⟨a, ha, rfl⟩ rx
  obtain ⟨o, ds, ep, xs, rfl, T, r⟩ := hr.mdict b kd nd ha
  obtain ⟨hi, _⟩ := hk.is hr rx
  have ty : s.TypeIs (.ref a) "dict" := ⟨_, T.ho, rfl⟩
  refine tail_any ty slot_dict_getitem.lookup ?_ (slice_not hs _ _)
  unfold getItem
  try with_reducible refine wpAny_holding ?_
  refine wpAny_bind (wpAny_sequenceKey ty (by decide) ?_)
  refine wpAny_bind (wpAny_callSpecial?_slot (name := Str.ofString "__getitem__") ty slot_dict_getitem (wpAny_call_entry slot_dict_getitem ty entry_dict_getitem ?_ (args_dict_getitem _ _)))
  show wpAny _ _ (dictGet a x >>= _) _ _ s
  refine wpAny_bind (mget_ hu T hi (fun hno n => ?_) fun j' p hj n => ?_)
  · rw [r.none hno] at hv; cases hv
  · obtain ⟨t', v', he, rp⟩ := r.get hj
    rw [mfnd_at nd he] at hv
    cases hv
    exact wpAny_pure ⟨p.2, rfl, wpAny_pure (PE.tok _ hr rp h)⟩
theorem seti_mdict {j t : Nat} {es : MD} {k : MK} {kv x : V} {Q : AH → Prop} (hu : A.units + 1 < cLine) (b : σ[j]? = some (.mdict es)) (kd : MKeyed σ es) (nd : (es.map (·.1)).Nodup) (hk : KeyV σ k t kv) (hv : mfnd es k = none) (hz : es.length ≤ 100000)
    (h : Q (σ.set j (.mdict (es ++ [(k, t, x)])))) : WSi C A (.ref j) kv x σ Q E := by
  refine ⟨?_⟩
  rintro ad s vo vi vx hr ⟨a, ha, rfl⟩ ri rx
  obtain ⟨o, ds, ep, xs, rfl, T, r⟩ := hr.mdict b kd nd ha
  obtain ⟨hi, hm⟩ := hk.is hr ri
  have ty : s.TypeIs (.ref a) "dict" := ⟨_, T.ho, rfl⟩
  have hlen : xs.length = es.length := by have := congrArg List.length r.names; simpa using this
  unfold setItem
  try with_reducible refine wpAny_holding ?_
  refine wpAny_bind (wpAny_sequenceKey ty (by decide) ?_)
  refine wpAny_bind (wpAny_callSpecial?_slot (name := Str.ofString "__setitem__") ty slot_dict_setitem (wpAny_call_entry slot_dict_setitem ty entry_dict_setitem ?_ (args_dict_setitem _ _ _)))
  show wpAny _ _ (Builtin.Dict.notOrdered "__setitem__" ⟨[.ref a, vi, vx], []⟩ >>= _) _ _ s
  refine wpAny_bind (wpAny_notOrdered_dict ty ?_)
  show wpAny _ _ (dictSet a vi vx >>= _) _ _ s
  refine wpAny_bind ?_
  unfold dictSet
  try with_reducible refine wpAny_holding ?_
  refine wpAny_bind (hi.hash hu fun n => ?_)
  unfold dictSetHashed
  try with_reducible refine wpAny_holding ?_
  refine wpAny_bind (mfind (s := { s with toks := n }) hu ⟨T.ho, T.hd, T.he, T.his, T.hn⟩ hi ?_ ?_)
  · intro hno
    refine wpAny_bind (wpAny_rule (wpAny_updateDictKeys (hz := by have e := T.sz; have e2 : sizeLine = 16777216 := rfl; lia) (s := { s with toks := n }) T.ho T.hd ?_))
    refine wpAny_pure ⟨.none, rfl, wpAny_pure ⟨ad, _, Nx.set (o := .mdict (es ++ [(k, t, x)])) hr ha (Heap.SameBut.update ..) (Heap.get?_update_self _ T.ho (Obj.isFreed_of_dict (Obj.data_mapDictKeys T.hd _))) ⟨ds.push ⟨mkHash C.w.params k, vi, vx⟩, ep + 1, rfl, ?_⟩, h⟩⟩
    rw [Array.toList_push, T.he]
    have := (r.snoc hm rx).rms (P := C.w.params)
    rw [List.map_append] at this
    exact this
  · rintro j' ⟨p, hj⟩
    obtain ⟨t', v', he, _⟩ := r.get hj
    rw [mfnd_at nd he] at hv; cases hv
theorem WE_dict0m {pos : Pos} (h : Q (.ref σ.length) (σ ++ [.mdict []])) : WE C A env (.Dict [] [] pos) ρ σ Q E := by
  refine ⟨?_⟩
  intro ad s hr er
  exact wpAny_Dict_empty ⟨_, _, .ref σ.length, Nx.alloc hr (o := .mdict []) ⟨#[], 0, rfl, .nil⟩, RV.last hr.len.symm, h⟩
end
end Mine

-- part Aw35
set_option autoImplicit false
set_option linter.unusedVariables false
namespace Mine
open PySem PySem.W PyProof.Rows

section
variable {C : Cx} {A : Around} {env : Env} {ρ : Loc} {σ : AH} {E : EX} {Q : V → AH → Prop}
theorem WC_maxL {v : V} {ns : List Int} (hA : A.handled = none) (b : ObjAt C σ v (.list (ns.map .int))) (hne : 0 < ns.length) (h : ∀ m, m ∈ ns → (∀ a ∈ ns, a ≤ m) → Q (.int m) σ) : WC C A (.builtin "max") [v] σ Q E := by
  refine ⟨?_⟩
  rintro ad s us hr (_ | ⟨rv, _ | _⟩)
  obtain ⟨a, vs, rfl, hl, rvs⟩ := b.list hr rv
  have hi := rvs.toInts
  obtain ⟨xs, e⟩ := hi.allInts.items
  have hns : ns = xs.toList.map (·.1) := by rw [← hi.numsOf, ← nums_intItems, ← e]
  have hsz : 0 < xs.size := by
    have h3 := hne; rw [hns, List.length_map, Array.length_toList] at h3; exact h3
  have hl' : s.heap.IsList a vs.toList.toArray := by simpa using hl
  rw [e] at hl'
  refine wpAny_sz (max_intList hA hl' hsz fun v h' tk hv hk hz => ?_)
  obtain ⟨t, rfl⟩ := intItems_at hv
  obtain ⟨h1, h2⟩ := argBest_gt (numAt xs) (xs.size - 1)
  refine ⟨ad, σ, .int _, Nx.keeps hz hr hk, ⟨t, rfl⟩, h _ ?_ fun a ha => ?_⟩
  · rw [hns, numAt_eq]; exact getD_mem (by rw [List.length_map, Array.length_toList]; lia)
  · rw [hns] at ha
    obtain ⟨j, hj, rfl⟩ := mem_getD ha
    rw [List.length_map, Array.length_toList] at hj
    rw [← numAt_eq]; exact h2 j (by lia)
theorem add_ll {i j : Nat} {xs ys : List V} (b1 : σ[i]? = some (.list xs)) (b2 : σ[j]? = some (.list ys)) (hz : xs.length + ys.length ≤ 100000) (h : Q (.ref σ.length) (σ ++ [.list (xs ++ ys)])) : WOp2 C A (binaryOp .Add) (.ref i) (.ref j) σ Q E := by
  refine ⟨?_⟩
  rintro ad s x y hr ⟨a, ha, rfl⟩ ⟨a', ha', rfl⟩
  obtain ⟨ob, h1, vs, n, rfl, r1⟩ := hr.obj i _ a b1 ha
  obtain ⟨ob', h1', vs', n', rfl, r2⟩ := hr.obj j _ a' b2 ha'
  have l1 := r1.length
  have l2 := r2.length
  refine PySem.P.add_list (items := vs) (items2 := vs') (n := n) (n2 := n') h1 h1' ⟨_, _, _, Nx.alloc hr (o := .list (xs ++ ys)) ⟨vs ++ vs', 0, rfl, by rw [Array.toList_append]; exact r1.append r2⟩, RV.last hr.len.symm, h⟩ (by have e : sizeLine = 16777216 := rfl; simp at l1 l2; lia)
theorem and_ii {i j : Int} (h : Q (.int (Builtin.bitAnd i j)) σ) : WOp2 C A (binaryOp .BitAnd) (.int i) (.int j) σ Q E := by
  refine ⟨?_⟩
  rintro ad s x y hr ⟨t, rfl⟩ ⟨u, rfl⟩
  exact and_int (PE.tok (v := .int _) _ hr ⟨_, rfl⟩ h)
theorem WM_bits {i : Int} {K : Value → List V → AH → Prop} (h : K (.builtin "int.bit_length") [.int i] σ) : WM C A (.int i) "bit_length" σ K E := by
  refine ⟨?_⟩
  rintro ad s v pl hr ⟨t, rfl⟩
  exact getMethod_int_bit_length ⟨ad, σ, [.int i], Nx.refl hr, .cons ⟨t, rfl⟩ .nil, h⟩
theorem WC_bits {i : Int} (h : Q (.int (Builtin.Int.intBits i : Nat)) σ) : WC C A (.builtin "int.bit_length") [.int i] σ Q E := by
  refine ⟨?_⟩
  rintro ad s us hr (_ | ⟨⟨t, rfl⟩, _ | _⟩)
  exact call_int_bit_length (PE.tok (v := .int _) _ hr ⟨_, rfl⟩ h)
theorem WC_bytes {v : V} {ns : List Int} (hA : A.handled = none) (b : ObjAt C σ v (.list (ns.map .int))) (hr' : ∀ n ∈ ns, 0 ≤ n ∧ n < 256) (hz : ns.length ≤ 100000) (h : Q (.bytes (byteArr ns)) σ) : WC C A (.type "bytes") [v] σ Q E := by
  refine ⟨?_⟩
  rintro ad s us hr (_ | ⟨rv, _ | _⟩)
  obtain ⟨a, vs, rfl, hl, rvs⟩ := b.list hr rv
  have hi := rvs.toInts
  have ln := hi.length
  have hl' : s.heap.IsList a vs.toList.toArray := by simpa using hl
  refine wpAny_sz (call_bytes_ints hl' hi hr' (by have e : sizeLine = 16777216 := rfl; lia) hA fun h' t k hk hz' => ?_)
  exact ⟨ad, σ, .bytes _, Nx.keeps hz' hr hk, ⟨t, rfl⟩, h⟩
theorem WC_lenB {ns : List Int} (hz : ns.length ≤ 100000) (h : Q (.int ns.length) σ) : WC C A (.builtin "len") [.bytes (byteArr ns)] σ Q E := by
  refine ⟨?_⟩
  rintro ad s us hr (_ | ⟨⟨t, rfl⟩, _ | _⟩)
  refine len_bytes (by rw [byteArr_size]; lia) (PE.tok (v := .int _) _ hr ⟨_, rfl⟩ ?_)
  rw [byteArr_size]; exact h
theorem byte_get {ns : List Int} {k : Nat} (hk : k < ns.length) (hr' : ∀ n ∈ ns, 0 ≤ n ∧ n < 256) : (((ns.map fun (n : Int) => n.toNat.toUInt8).getD k 0).toNat : Int) = ns.getD k 0 := by
  have h1 : (ns.map fun (n : Int) => n.toNat.toUInt8).getD k 0 = (ns[k]).toNat.toUInt8 := by simp [List.getD, hk]
  have h2 : ns.getD k 0 = ns[k] := by simp [List.getD, hk]
  rw [h1, h2]
  have := hr' ns[k] (List.getElem_mem hk)
  generalize ns[k] = x at *
  rw [show x.toNat.toUInt8.toNat = x.toNat % 256 from UInt8.toNat_ofNat' , Nat.mod_eq_of_lt (by lia)]
  lia
theorem item_bytes {value slice : PySem.Expr} {ns : List Int} {k : Nat} (hz : ns.length ≤ 100000) (hk : k < ns.length) (hr' : ∀ n ∈ ns, 0 ≤ n ∧ n < 256) (h : Q (.int (ns.getD k 0)) σ) (hs : isSliceE slice = false := by rfl) : WSub C A value slice (.bytes (byteArr ns)) (.int (k : Nat)) σ Q E := by
  have e := byte_get hk hr'
  refine ⟨?_⟩
  rintro ad s x y hr ⟨t, rfl⟩ ⟨u, rfl⟩
  refine tail_any (PySem.W.typeIs_bytes s _ t) PySem.W.FB.slot_bytes_getitem.lookup ?_ (slice_not hs _ _)
  unfold byteArr
  have hl : (ns.map fun (n : Int) => n.toNat.toUInt8).length = ns.length := List.length_map ..
  generalize (ns.map fun (n : Int) => n.toNat.toUInt8) = l at *
  refine getItem_bytes (l := l) (by lia) (by lia) (by lia) ?_
  rw [Int.toNat_natCast, e]
  exact PE.tok (v := .int _) _ hr ⟨_, rfl⟩ h
end
end Mine

-- part Pl15
set_option autoImplicit false
set_option linter.unusedVariables false
namespace Mine
/- the coder, in plain -/
/-- what is taken off ahead of a doubling -/
noncomputable def rn (low high : Int) : Option Int :=
  if high ≤ 8388608 then some 0 else if 8388608 ≤ low then some 8388608 else if 4194304 ≤ low ∧ high ≤ 12582912 then some 4194304 else none
structure Enc where
  low : Int
  high : Int
  wait : Nat
  bits : List Int
  off : Int
  k : Nat
noncomputable def Enc.step (e : Enc) (c : Int) : Enc :=
  { low := 2 * (e.low - c), high := 2 * (e.high - c),
    wait := if c = 4194304 then e.wait + 1 else 0,
    bits := if c = 4194304 then e.bits else if c = 0 then e.bits ++ [0] ++ List.replicate e.wait 1 else e.bits ++ [1] ++ List.replicate e.wait 0,
    off := 2 * (e.off + c), k := e.k + 1 }
noncomputable def Enc.ren : Nat → Enc → Enc
  | 0, e => e
  | f + 1, e => match rn e.low e.high with
    | none => e
    | some c => Enc.ren f (e.step c)
noncomputable def Enc.narrow (e : Enc) (mid bit : Int) : Enc := if bit = 0 then { e with high := mid } else { e with low := mid }
noncomputable def Enc.put (e : Enc) (mid bit : Int) : Enc := Enc.ren 25 (e.narrow mid bit)
noncomputable def enc0 : Enc := ⟨0, 16777216, 0, [], 0, 0⟩
noncomputable def bv : List Int → Int
  | l => l.foldl (fun a b => 2 * a + b) 0
theorem bv_append (l m : List Int) : bv (l ++ m) = bv l * 2 ^ m.length + bv m := by
  have h : ∀ (m : List Int) (a : Int), m.foldl (fun a b => 2 * a + b) a = a * 2 ^ m.length + m.foldl (fun a b => 2 * a + b) 0 := by
    intro m
    induction m with
    | nil => intro a; simp
    | cons b m ih =>
      intro a
      rw [List.foldl_cons, List.foldl_cons, ih (2 * a + b), ih (2 * 0 + b), List.length_cons, Int.pow_succ]
      generalize m.foldl (fun a b => 2 * a + b) 0 = x
      generalize (2 : Int) ^ m.length = p
      grind
  unfold bv
  rw [List.foldl_append, h]
theorem bv_ones : ∀ n, bv (List.replicate n 1) = 2 ^ n - 1
  | 0 => rfl
  | n + 1 => by rw [List.replicate_succ', bv_append, bv_ones n]; simp [bv, Int.pow_succ]; lia
theorem bv_zeros : ∀ n, bv (List.replicate n 0) = 0
  | 0 => rfl
  | n + 1 => by rw [List.replicate_succ', bv_append, bv_zeros n]; simp [bv]
structure EInv (e : Enc) : Prop where
  lo : 0 ≤ e.low
  lt : e.low < e.high
  hi : e.high ≤ 16777216
  off : e.off = 16777216 * (bv e.bits * 2 ^ e.wait) + (2 ^ e.wait - 1) * 8388608
  k : e.k = e.bits.length + e.wait
  b : ∀ b ∈ e.bits, b = 0 ∨ b = 1
theorem rn_some {low high c : Int} (h : rn low high = some c) : (c = 0 ∧ high ≤ 8388608) ∨ (c = 8388608 ∧ ¬ high ≤ 8388608 ∧ 8388608 ≤ low) ∨ (c = 4194304 ∧ ¬ high ≤ 8388608 ∧ ¬ 8388608 ≤ low ∧ 4194304 ≤ low ∧ high ≤ 12582912) := by
  unfold rn at h
  split at h
  · cases h; exact .inl ⟨rfl, by assumption⟩
  · split at h
    · cases h; exact .inr (.inl ⟨rfl, by assumption, by assumption⟩)
    · split at h
      · cases h; rename_i h3; exact .inr (.inr ⟨rfl, by assumption, by assumption, h3.1, h3.2⟩)
      · cases h
theorem rn_none {low high : Int} (h : rn low high = none) : 8388608 < high ∧ low < 8388608 ∧ (low < 4194304 ∨ 12582912 < high) := by
  unfold rn at h
  split at h
  · cases h
  · split at h
    · cases h
    · split at h
      · cases h
      · lia
theorem EInv.step {e : Enc} (i : EInv e) {c : Int} (h : rn e.low e.high = some c) : EInv (e.step c) := by
  have := rn_some h
  have h1 := i.lo
  have h2 := i.lt
  have h3 := i.hi
  rcases this with ⟨rfl, a⟩ | ⟨rfl, a, b⟩ | ⟨rfl, a, b, d, f⟩
  · refine ⟨by show 0 ≤ 2 * (e.low - 0); lia, by show 2 * (e.low - 0) < 2 * (e.high - 0); lia, by show 2 * (e.high - 0) ≤ _; lia, ?_, ?_, ?_⟩
    · show 2 * (e.off + 0) = 16777216 * (bv (e.bits ++ [0] ++ List.replicate e.wait 1) * 2 ^ 0) + (2 ^ 0 - 1) * 8388608
      rw [bv_append, bv_append, bv_ones, i.off, List.length_replicate]
      have : bv [0] = 0 := rfl
      rw [this]
      generalize bv e.bits = x
      generalize (2 : Int) ^ e.wait = p
      simp
      grind
    · show e.k + 1 = (e.bits ++ [0] ++ List.replicate e.wait 1).length + 0
      have := i.k; simp; lia
    · intro b hb
      have hb : b ∈ e.bits ++ [0] ++ List.replicate e.wait 1 := hb
      simp only [List.mem_append, List.mem_singleton, List.mem_replicate] at hb
      rcases hb with (hb | hb) | hb
      · exact i.b b hb
      · exact .inl hb
      · exact .inr hb.2
  · refine ⟨by show 0 ≤ 2 * (e.low - _); lia, by show 2 * (e.low - _) < 2 * (e.high - _); lia, by show 2 * (e.high - _) ≤ _; lia, ?_, ?_, ?_⟩
    · show 2 * (e.off + 8388608) = 16777216 * (bv (e.bits ++ [1] ++ List.replicate e.wait 0) * 2 ^ 0) + (2 ^ 0 - 1) * 8388608
      rw [bv_append, bv_append, bv_zeros, i.off, List.length_replicate]
      have : bv [1] = 1 := rfl
      rw [this]
      generalize bv e.bits = x
      generalize (2 : Int) ^ e.wait = p
      simp
      grind
    · show e.k + 1 = (e.bits ++ [1] ++ List.replicate e.wait 0).length + 0
      have := i.k; simp; lia
    · intro b hb
      have hb : b ∈ e.bits ++ [1] ++ List.replicate e.wait 0 := hb
      simp only [List.mem_append, List.mem_singleton, List.mem_replicate] at hb
      rcases hb with (hb | hb) | hb
      · exact i.b b hb
      · exact .inr hb
      · exact .inl hb.2
  · refine ⟨by show 0 ≤ 2 * (e.low - _); lia, by show 2 * (e.low - _) < 2 * (e.high - _); lia, by show 2 * (e.high - _) ≤ _; lia, ?_, ?_, i.b⟩
    · show 2 * (e.off + 4194304) = 16777216 * (bv e.bits * 2 ^ (e.wait + 1)) + (2 ^ (e.wait + 1) - 1) * 8388608
      rw [i.off, Int.pow_succ]
      generalize bv e.bits = x
      generalize (2 : Int) ^ e.wait = p
      grind
    · show e.k + 1 = e.bits.length + (e.wait + 1)
      have := i.k; lia
theorem EInv.ren : ∀ {f : Nat} {e : Enc}, EInv e → EInv (Enc.ren f e)
  | 0, e, i => i
  | f + 1, e, i => by
    unfold Enc.ren
    split
    · exact i
    · rename_i c h; exact EInv.ren (i.step h)
/-- enough doublings end the loop -/
theorem ren_end : ∀ {f : Nat} {e : Enc}, EInv e → 16777216 < (e.high - e.low) * 2 ^ f → rn (Enc.ren f e).low (Enc.ren f e).high = none
  | 0, e, i, h => by have := i.lo; have := i.hi; simp at h; lia
  | f + 1, e, i, h => by
    unfold Enc.ren
    cases hr : rn e.low e.high with
    | none => exact hr
    | some c =>
      refine ren_end (i.step hr) ?_
      show 16777216 < (2 * (e.high - c) - 2 * (e.low - c)) * 2 ^ f
      rw [show 2 * (e.high - c) - 2 * (e.low - c) = (e.high - e.low) * 2 by lia, Int.mul_assoc, Int.mul_comm 2, ← Int.pow_succ]
      exact h
theorem pow_le25 {x : Int} (h : 1 ≤ x) : 16777216 < x * 2 ^ 25 := by
  have : (2 : Int) ^ 25 = 33554432 := by decide
  rw [this]; lia
theorem EInv.narrow {e : Enc} (i : EInv e) {mid bit : Int} (h1 : e.low < mid) (h2 : mid < e.high) : EInv (e.narrow mid bit) := by
  have := i.lo
  have := i.hi
  unfold Enc.narrow
  split
  · exact ⟨i.lo, h1, by show mid ≤ _; lia, i.off, i.k, i.b⟩
  · exact ⟨by show 0 ≤ mid; lia, h2, i.hi, i.off, i.k, i.b⟩
/-- at rest: no doubling is due -/
structure ERest (e : Enc) : Prop where
  inv : EInv e
  rest : rn e.low e.high = none
theorem ERest.wide {e : Enc} (r : ERest e) : 2 ≤ e.high - e.low := by
  have := rn_none r.rest; lia
theorem ERest.put {e : Enc} (r : ERest e) {mid bit : Int} (h1 : e.low < mid) (h2 : mid < e.high) : ERest (e.put mid bit) := by
  have n := r.inv.narrow (bit := bit) h1 h2
  exact ⟨n.ren, ren_end n (pow_le25 (by have := n.lt; lia))⟩
theorem erest0 : ERest enc0 := ⟨⟨by decide, by decide, by decide, by decide, rfl, fun b h => by cases h⟩, rfl⟩
/- the stream of bits -/
noncomputable def sv (S : Nat → Int) : Nat → Int
  | 0 => 0
  | m + 1 => 2 * sv S m + S m
noncomputable def Bits (S : Nat → Int) : Prop := ∀ i, S i = 0 ∨ S i = 1
theorem sv_split {S : Nat → Int} (hS : Bits S) (m : Nat) : ∀ d, sv S m * 2 ^ d ≤ sv S (m + d) ∧ sv S (m + d) < (sv S m + 1) * 2 ^ d
  | 0 => by simp; lia
  | d + 1 => by
    obtain ⟨h1, h2⟩ := sv_split hS m d
    rw [show m + (d + 1) = (m + d) + 1 from rfl, sv, Int.pow_succ]
    have hb := hS (m + d)
    generalize (2 : Int) ^ d = p at *
    rw [← Int.mul_assoc, ← Int.mul_assoc]
    rcases hb with h | h <;> rw [h] <;> constructor <;> lia
/-- the stream lies in the coder's range, seen at M bits -/
noncomputable def InN (e : Enc) (S : Nat → Int) (M : Nat) : Prop := ∃ d, M = 24 + e.k + d ∧ (e.off + e.low) * 2 ^ d ≤ sv S M ∧ sv S M < (e.off + e.high) * 2 ^ d
theorem InN.step {e : Enc} {c : Int} {S : Nat → Int} {M : Nat} (h : InN (e.step c) S M) : InN e S M := by
  obtain ⟨d, hM, h1, h2⟩ := h
  refine ⟨d + 1, by show M = 24 + e.k + (d + 1); have : M = 24 + (e.k + 1) + d := hM; lia, ?_, ?_⟩
  · have h1 : (2 * (e.off + c) + 2 * (e.low - c)) * 2 ^ d ≤ sv S M := h1
    rw [Int.pow_succ]
    rw [show 2 * (e.off + c) + 2 * (e.low - c) = (e.off + e.low) * 2 by lia] at h1
    rw [Int.mul_comm (2 ^ d) 2, ← Int.mul_assoc]; exact h1
  · have h2 : sv S M < (2 * (e.off + c) + 2 * (e.high - c)) * 2 ^ d := h2
    rw [Int.pow_succ]
    rw [show 2 * (e.off + c) + 2 * (e.high - c) = (e.off + e.high) * 2 by lia] at h2
    rw [Int.mul_comm (2 ^ d) 2, ← Int.mul_assoc]; exact h2
theorem InN.ren {S : Nat → Int} {M : Nat} : ∀ {f : Nat} {e : Enc}, InN (Enc.ren f e) S M → InN e S M
  | 0, e, h => h
  | f + 1, e, h => by
    unfold Enc.ren at h
    split at h
    · exact h
    · exact (InN.ren h).step
theorem InN.narrow {e : Enc} {mid bit : Int} {S : Nat → Int} {M : Nat} (h1 : e.low < mid) (h2 : mid < e.high) (h : InN (e.narrow mid bit) S M) : InN e S M := by
  obtain ⟨d, hM, a1, a2⟩ := h
  have hp : (0 : Int) ≤ 2 ^ d := Int.le_of_lt (Int.pow_pos (by decide))
  unfold Enc.narrow at hM a1 a2
  split at hM
  · rename_i hb
    rw [if_pos hb] at a1 a2
    exact ⟨d, hM, a1, Int.lt_of_lt_of_le a2 (Int.mul_le_mul_of_nonneg_right (show e.off + mid ≤ e.off + e.high by lia) hp)⟩
  · rename_i hb
    rw [if_neg hb] at a1 a2
    exact ⟨d, hM, Int.le_trans (Int.mul_le_mul_of_nonneg_right (show e.off + e.low ≤ e.off + mid by lia) hp) a1, a2⟩
theorem InN.put {e : Enc} {mid bit : Int} {S : Nat → Int} {M : Nat} (h1 : e.low < mid) (h2 : mid < e.high) (h : InN (e.put mid bit) S M) : InN e S M := (InN.ren h).narrow h1 h2
/-- what the reader holds, against what the writer held -/
structure Dec where
  low : Int
  high : Int
  value : Int
  at' : Nat
structure DOk (d : Dec) (e : Enc) (S : Nat → Int) : Prop where
  lo : d.low = e.low
  hi : d.high = e.high
  a : d.at' = 24 + e.k
  v : d.value = sv S (24 + e.k) - e.off
theorem dec_bit {d : Dec} {e : Enc} {S : Nat → Int} {M : Nat} {mid bit : Int} (hS : Bits S) (ok : DOk d e S) (hb : bit = 0 ∨ bit = 1) (h : InN (e.narrow mid bit) S M) : (if mid ≤ d.value then 1 else 0) = bit := by
  obtain ⟨dd, hM, a1, a2⟩ := h
  have hp : (0 : Int) < 2 ^ dd := Int.pow_pos (by decide)
  have ek : (e.narrow mid bit).k = e.k := by unfold Enc.narrow; split <;> rfl
  have eo : (e.narrow mid bit).off = e.off := by unfold Enc.narrow; split <;> rfl
  rw [ek] at hM
  obtain ⟨s1, s2⟩ := sv_split hS (24 + e.k) dd
  rw [← hM] at s1 s2
  rw [ok.v]
  rw [eo] at a1 a2
  rcases hb with rfl | rfl
  · have eh : (e.narrow mid 0).high = mid := rfl
    rw [eh] at a2
    have := Int.lt_of_mul_lt_mul_right (Int.lt_of_le_of_lt s1 a2) (Int.le_of_lt hp)
    rw [if_neg (by lia)]
  · have el : (e.narrow mid 1).low = mid := rfl
    rw [el] at a1
    have := Int.lt_of_mul_lt_mul_right (Int.lt_of_le_of_lt a1 s2) (Int.le_of_lt hp)
    rw [if_pos (by lia)]
noncomputable def Dec.narrow (d : Dec) (mid bit : Int) : Dec := if bit = 0 then { d with high := mid } else { d with low := mid }
noncomputable def Dec.step (d : Dec) (S : Nat → Int) (c : Int) : Dec := ⟨2 * (d.low - c), 2 * (d.high - c), 2 * (d.value - c) + S d.at', d.at' + 1⟩
noncomputable def Dec.ren (S : Nat → Int) : Nat → Dec → Dec
  | 0, d => d
  | f + 1, d => match rn d.low d.high with
    | none => d
    | some c => Dec.ren S f (d.step S c)
theorem DOk.narrow {d : Dec} {e : Enc} {S : Nat → Int} (ok : DOk d e S) (mid bit : Int) : DOk (d.narrow mid bit) (e.narrow mid bit) S := by
  unfold Dec.narrow Enc.narrow
  split
  · exact ⟨ok.lo, rfl, ok.a, ok.v⟩
  · exact ⟨rfl, ok.hi, ok.a, ok.v⟩
theorem DOk.step {d : Dec} {e : Enc} {S : Nat → Int} (ok : DOk d e S) (c : Int) : DOk (d.step S c) (e.step c) S := by
  refine ⟨by show 2 * (d.low - c) = 2 * (e.low - c); rw [ok.lo], by show 2 * (d.high - c) = 2 * (e.high - c); rw [ok.hi], by show d.at' + 1 = 24 + (e.k + 1); rw [ok.a]; lia, ?_⟩
  show 2 * (d.value - c) + S d.at' = sv S (24 + (e.k + 1)) - 2 * (e.off + c)
  rw [ok.v, ok.a, show 24 + (e.k + 1) = (24 + e.k) + 1 from rfl, sv]
  lia
theorem DOk.ren {S : Nat → Int} : ∀ {f : Nat} {d : Dec} {e : Enc}, DOk d e S → DOk (Dec.ren S f d) (Enc.ren f e) S
  | 0, d, e, ok => ok
  | f + 1, d, e, ok => by
    unfold Dec.ren Enc.ren
    rw [ok.lo, ok.hi]
    split
    · exact ok
    · exact (ok.step _).ren
/- the end -/
noncomputable def Enc.fin (e : Enc) : List Int := if e.low < 4194304 then e.bits ++ [0] ++ List.replicate (e.wait + 1) 1 else e.bits ++ [1] ++ List.replicate (e.wait + 1) 0
noncomputable def strm (l : List Int) (i : Nat) : Int := l.getD i 0
theorem sv_strm (l : List Int) : ∀ m, sv (strm l) m = bv (l.take m) * 2 ^ (m - l.length)
  | 0 => by simp [sv, bv]
  | m + 1 => by
    rw [sv, sv_strm l m]
    by_cases h : m < l.length
    · have e1 : m - l.length = 0 := by lia
      have e2 : m + 1 - l.length = 0 := by lia
      have e3 : l.take (m + 1) = l.take m ++ [l[m]] := by rw [List.take_add_one]; simp [h]
      rw [e1, e2, e3, bv_append, strm, List.getD, List.getElem?_eq_getElem h]
      simp [bv]
      lia
    · rw [List.take_of_length_le (by lia), List.take_of_length_le (by lia), show m + 1 - l.length = (m - l.length) + 1 by lia, Int.pow_succ, strm, List.getD, List.getElem?_eq_none (by lia)]
      generalize bv l = x
      generalize (2 : Int) ^ (m - l.length) = p
      simp
      grind
theorem fin_in {e : Enc} (r : ERest e) : InN e (strm e.fin) (24 + e.k) := by
  have hn := rn_none r.rest
  have i := r.inv
  have hk := i.k
  have lenF : e.fin.length = e.k + 2 := by unfold Enc.fin; split <;> simp <;> lia
  refine ⟨0, rfl, ?_⟩
  have e22 : 24 + e.k - e.fin.length = 22 := by lia
  rw [sv_strm, List.take_of_length_le (by lia), e22, i.off]
  have p22 : (2 : Int) ^ 22 = 4194304 := by decide
  rw [p22]
  unfold Enc.fin
  split
  · rw [bv_append, bv_append, bv_ones, List.length_replicate]
    have : bv [0] = 0 := rfl
    have : ([0] : List Int).length = 1 := rfl
    simp only [*, Int.pow_succ, Int.pow_zero, Int.mul_one]
    generalize bv e.bits = x
    generalize (2 : Int) ^ e.wait = p
    have h3 := i.lo
    constructor
    · grind
    · grind
  · rw [bv_append, bv_append, bv_zeros, List.length_replicate]
    have : bv [1] = 1 := rfl
    have : ([1] : List Int).length = 1 := rfl
    simp only [*, Int.pow_succ, Int.pow_zero, Int.mul_one]
    generalize bv e.bits = x
    generalize (2 : Int) ^ e.wait = p
    constructor
    · grind
    · grind
end Mine

-- part Pl15b
set_option autoImplicit false
set_option linter.unusedVariables false
namespace Mine
/- the model of counts -/
abbrev Ctx := MK
abbrev Cts := Ctx → Int × Int
noncomputable def cts0 : Cts := fun _ => (1, 1)
noncomputable def midOf (r : Int × Int) (low high : Int) : Int := low + max 1 (min (high - low - 1) (((high - low) * r.1).fdiv (r.1 + r.2)))
noncomputable def bump1 (r : Int × Int) (bit : Int) : Int × Int := if bit = 0 then (r.1 + 1, r.2) else (r.1, r.2 + 1)
noncomputable def bump (r : Int × Int) (bit : Int) : Int × Int := if 256 ≤ (bump1 r bit).1 + (bump1 r bit).2 then (((bump1 r bit).1 + 1).fdiv 2, ((bump1 r bit).2 + 1).fdiv 2) else bump1 r bit
noncomputable def noted (M : Cts) (c : Ctx) (bit : Int) : Cts := fun c' => if c' = c then bump (M c) bit else M c'
structure ROk (r : Int × Int) : Prop where
  a : 1 ≤ r.1
  b : 1 ≤ r.2
  s : r.1 + r.2 < 256
theorem ROk.bump {r : Int × Int} (h : ROk r) {bit : Int} : ROk (bump r bit) := by
  obtain ⟨h1, h2, h3⟩ := h
  have e1 : ∀ x : Int, (x + 1).fdiv 2 = (x + 1) / 2 := fun x => Int.fdiv_eq_ediv_of_nonneg _ (by decide)
  unfold Mine.bump bump1
  by_cases hb : bit = 0
  · simp only [hb, if_true]
    split
    · refine ⟨?_, ?_, ?_⟩ <;> simp only [e1] <;> lia
    · exact ⟨by show 1 ≤ r.1 + 1; lia, h2, by show r.1 + 1 + r.2 < 256; lia⟩
  · simp only [hb, if_false]
    split
    · refine ⟨?_, ?_, ?_⟩ <;> simp only [e1] <;> lia
    · exact ⟨h1, by show 1 ≤ r.2 + 1; lia, by show r.1 + (r.2 + 1) < 256; lia⟩
theorem midOf_in {r : Int × Int} {low high : Int} (h : 2 ≤ high - low) : low < midOf r low high ∧ midOf r low high < high := by
  unfold midOf
  generalize ((high - low) * r.1).fdiv (r.1 + r.2) = x
  lia
abbrev Wst := Enc × Cts
abbrev Ev := Ctx × Int
noncomputable def wput (w : Wst) (ev : Ev) : Wst := (w.1.put (midOf (w.2 ev.1) w.1.low w.1.high) ev.2, noted w.2 ev.1 ev.2)
noncomputable def wst (evs : List Ev) : Wst := evs.foldl wput (enc0, cts0)
theorem wst_snoc (evs : List Ev) (ev : Ev) : wst (evs ++ [ev]) = wput (wst evs) ev := by unfold wst; rw [List.foldl_append]; rfl
structure WOk (w : Wst) : Prop where
  r : ERest w.1
  m : ∀ c, ROk (w.2 c)
theorem WOk.mid {w : Wst} (h : WOk w) (c : Ctx) : w.1.low < midOf (w.2 c) w.1.low w.1.high ∧ midOf (w.2 c) w.1.low w.1.high < w.1.high := midOf_in h.r.wide
theorem WOk.put {w : Wst} (h : WOk w) (ev : Ev) : WOk (wput w ev) := by
  refine ⟨h.r.put (h.mid ev.1).1 (h.mid ev.1).2, fun c => ?_⟩
  show ROk (noted w.2 ev.1 ev.2 c)
  unfold noted
  split
  · exact (h.m _).bump
  · exact h.m _
theorem wok0 : WOk (enc0, cts0) := ⟨erest0, fun c => ⟨(by decide : (1 : Int) ≤ 1), (by decide : (1 : Int) ≤ 1), (by decide : (1 : Int) + 1 < 256)⟩⟩
theorem rev_ind {α : Type} {p : List α → Prop} (h0 : p []) (hs : ∀ l x, p l → p (l ++ [x])) : ∀ l, p l := by
  have : ∀ l : List α, p l.reverse := by
    intro l
    induction l with
    | nil => exact h0
    | cons x l ih => rw [List.reverse_cons]; exact hs _ _ ih
  intro l
  have := this l.reverse
  rwa [List.reverse_reverse] at this
theorem wst_ok : ∀ evs, WOk (wst evs) := rev_ind wok0 fun l x h => by rw [wst_snoc]; exact h.put x
noncomputable def strOf (evs : List Ev) : Nat → Int := strm (wst evs).1.fin
theorem wst_in (evs : List Ev) : ∀ post pre, evs = pre ++ post → InN (wst pre).1 (strOf evs) (24 + (wst evs).1.k) := by
  intro post
  induction post with
  | nil => intro pre h; rw [List.append_nil] at h; subst h; exact fin_in (wst_ok evs).r
  | cons ev post ih =>
    intro pre h
    have := ih (pre ++ [ev]) (by simp [h])
    rw [wst_snoc] at this
    exact InN.put ((wst_ok pre).mid ev.1).1 ((wst_ok pre).mid ev.1).2 this
theorem fin_bits {e : Enc} (r : EInv e) : ∀ b ∈ e.fin, b = 0 ∨ b = 1 := by
  intro b hb
  unfold Enc.fin at hb
  split at hb <;> simp only [List.mem_append, List.mem_singleton, List.mem_replicate] at hb
  · rcases hb with (hb | hb) | hb
    · exact r.b b hb
    · exact .inl hb
    · exact .inr hb.2
  · rcases hb with (hb | hb) | hb
    · exact r.b b hb
    · exact .inr hb
    · exact .inl hb.2
theorem strm_bits {l : List Int} (h : ∀ b ∈ l, b = 0 ∨ b = 1) : Bits (strm l) := by
  intro i
  unfold strm
  rw [List.getD]
  cases hi : l[i]? with
  | none => exact .inl rfl
  | some b => exact h b (List.mem_of_getElem? hi)
/-- the reader's next bit is the writer's -/
theorem read_bit {evs pre post : List Ev} {ev : Ev} {d : Dec} (he : evs = pre ++ ev :: post) (hb : ev.2 = 0 ∨ ev.2 = 1) (ok : DOk d (wst pre).1 (strOf evs)) :
    (if midOf ((wst pre).2 ev.1) d.low d.high ≤ d.value then 1 else 0) = ev.2 ∧ DOk (Dec.ren (strOf evs) 25 (d.narrow (midOf ((wst pre).2 ev.1) d.low d.high) ev.2)) (wst (pre ++ [ev])).1 (strOf evs) := by
  have h1 := wst_in evs post (pre ++ [ev]) (by simp [he])
  rw [wst_snoc] at h1 ⊢
  have hS : Bits (strOf evs) := strm_bits (fin_bits (wst_ok evs).r.inv)
  have h2 := InN.ren h1
  rw [ok.lo, ok.hi]
  exact ⟨dec_bit hS ok hb h2, (ok.narrow _ _).ren⟩
theorem DOk.start (S : Nat → Int) : DOk ⟨0, 16777216, sv S 24, 24⟩ enc0 S := ⟨rfl, rfl, rfl, by simp [enc0]⟩
/- how long -/
theorem ren_k : ∀ (f : Nat) (e : Enc), (Enc.ren f e).k ≤ e.k + f
  | 0, e => Nat.le_refl _
  | f + 1, e => by
    unfold Enc.ren
    split
    · lia
    · have := ren_k f (e.step ‹Int›)
      have h : (e.step ‹Int›).k = e.k + 1 := rfl
      lia
theorem put_k (e : Enc) (m b : Int) : (e.put m b).k ≤ e.k + 25 := by
  have := ren_k 25 (e.narrow m b)
  have h : (e.narrow m b).k = e.k := by unfold Enc.narrow; split <;> rfl
  unfold Enc.put; lia
theorem wst_k : ∀ evs, (wst evs).1.k ≤ 25 * evs.length := rev_ind (Nat.zero_le _) fun l x h => by
  rw [wst_snoc]
  have := put_k (wst l).1 (midOf ((wst l).2 x.1) (wst l).1.low (wst l).1.high) x.2
  show (Enc.put _ _ _).k ≤ _
  rw [List.length_append]
  simp
  lia
end Mine

-- part Pl15c
set_option autoImplicit false
set_option linter.unusedVariables false
namespace Mine
/- bits in bytes -/
noncomputable def chunk (l : List Int) (i : Nat) : List Int := (l.drop (8 * i)).take 8
noncomputable def pad8 (r : List Int) : List Int := r ++ List.replicate (8 - r.length) 0
noncomputable def byteAt (l : List Int) (i : Nat) : Int := bv (pad8 (chunk l i))
noncomputable def bytesOf (l : List Int) : List Int := (List.range ((l.length + 7) / 8)).map (byteAt l)
noncomputable def IsBits (l : List Int) : Prop := ∀ b ∈ l, b = 0 ∨ b = 1
theorem bv_range' : ∀ (l : List Int), IsBits l → 0 ≤ bv l ∧ bv l < 2 ^ l.length := by
  refine rev_ind ?_ ?_
  · intro _; exact ⟨by decide, by decide⟩
  · intro l x ih h
    have hl := ih fun b hb => h b (List.mem_append_left _ hb)
    have hx := h x (by simp)
    rw [bv_append, List.length_append]
    have e1 : bv [x] = x := by simp [bv]
    have e2 : ([x] : List Int).length = 1 := rfl
    rw [e1, e2, Int.pow_succ 2 l.length, show (2 : Int) ^ 1 = 2 from rfl]
    generalize bv l = y at *
    generalize (2 : Int) ^ l.length = p at *
    lia
theorem bv_range {l : List Int} (h : IsBits l) : 0 ≤ bv l ∧ bv l < 2 ^ l.length := bv_range' l h
theorem pad8_bits {r : List Int} (h : IsBits r) : IsBits (pad8 r) := by
  intro b hb
  rcases List.mem_append.mp hb with hb | hb
  · exact h b hb
  · exact .inl (List.eq_of_mem_replicate hb)
theorem pad8_len {r : List Int} (h : r.length ≤ 8) : (pad8 r).length = 8 := by simp [pad8]; lia
theorem chunk_bits {l : List Int} (h : IsBits l) (i : Nat) : IsBits (chunk l i) := fun b hb => h b (List.mem_of_mem_drop (List.mem_of_mem_take hb))
theorem chunk_len (l : List Int) (i : Nat) : (chunk l i).length ≤ 8 := by simp [chunk]; lia
theorem byteAt_range {l : List Int} (h : IsBits l) (i : Nat) : 0 ≤ byteAt l i ∧ byteAt l i < 256 := by
  have := bv_range (pad8_bits (chunk_bits h i))
  rw [pad8_len (chunk_len l i)] at this
  exact this
theorem bytesOf_range {l : List Int} (h : IsBits l) : ∀ n ∈ bytesOf l, 0 ≤ n ∧ n < 256 := by
  intro n hn
  obtain ⟨i, _, rfl⟩ := List.mem_map.mp hn
  exact byteAt_range h i
theorem bit_of {r : List Int} (h : IsBits r) (hl : r.length = 8) {j : Nat} (hj : j < 8) : ((bv r).fdiv (2 ^ (7 - j))) % 2 = r.getD j 0 := by
  have hj' : j < r.length := by lia
  have e : r = r.take j ++ [r[j]] ++ r.drop (j + 1) := by
    rw [List.append_assoc, List.singleton_append, ← List.drop_eq_getElem_cons hj', List.take_append_drop]
  have h2 : IsBits (r.drop (j + 1)) := fun b hb => h b (List.mem_of_mem_drop hb)
  have h3 := bv_range h2
  have hx := h r[j] (List.getElem_mem hj')
  have eL : (r.drop (j + 1)).length = 7 - j := by rw [List.length_drop]; lia
  rw [eL] at h3
  have eg : r.getD j 0 = r[j] := by simp [List.getD, hj']
  rw [eg]
  have eb : bv r = (bv (r.take j) * 2 + r[j]) * 2 ^ (7 - j) + bv (r.drop (j + 1)) := by
    conv => lhs; rw [e]
    rw [bv_append, bv_append, eL]
    simp [bv]
  rw [eb]
  have hp : (0 : Int) < 2 ^ (7 - j) := Int.pow_pos (by decide)
  generalize bv (r.drop (j + 1)) = z at *
  generalize bv (r.take j) = y at *
  generalize r[j] = x at *
  generalize (2 : Int) ^ (7 - j) = p at *
  rw [Int.fdiv_eq_ediv_of_nonneg _ (Int.le_of_lt hp), Int.add_comm, Int.add_mul_ediv_right _ _ (Int.ne_of_gt hp), Int.ediv_eq_zero_of_lt h3.1 h3.2]
  lia
theorem and1 : ∀ n : Nat, n < 256 → PySem.Builtin.bitAnd (n : Int) 1 = (n : Int) % 2 := by decide +kernel
theorem and_one {a : Int} (h0 : 0 ≤ a) (h1 : a < 256) : PySem.Builtin.bitAnd a 1 = a % 2 := by
  obtain ⟨n, rfl⟩ := Int.eq_ofNat_of_zero_le h0
  exact and1 n (by lia)
/-- a bit of the bytes is the bit of the stream -/
theorem bit_at {l : List Int} (h : IsBits l) (a : Nat) (hb : a / 8 < (bytesOf l).length) : PySem.Builtin.bitAnd (((bytesOf l).getD (a / 8) 0).fdiv (2 ^ (7 - a % 8))) 1 = strm l a := by
  have hb' : a / 8 < (l.length + 7) / 8 := by simpa [bytesOf] using hb
  have e1 : (bytesOf l).getD (a / 8) 0 = byteAt l (a / 8) := by simp [bytesOf, List.getD, hb']
  have hr := byteAt_range h (a / 8)
  rw [e1]
  have hp : (0 : Int) < 2 ^ (7 - a % 8) := Int.pow_pos (by decide)
  have hd : 0 ≤ (byteAt l (a / 8)).fdiv (2 ^ (7 - a % 8)) ∧ (byteAt l (a / 8)).fdiv (2 ^ (7 - a % 8)) < 256 := by
    rw [Int.fdiv_eq_ediv_of_nonneg _ (Int.le_of_lt hp)]
    exact ⟨Int.ediv_nonneg hr.1 (Int.le_of_lt hp), Int.lt_of_le_of_lt (Int.ediv_le_self _ hr.1) hr.2⟩
  rw [and_one hd.1 hd.2]
  unfold byteAt
  rw [bit_of (pad8_bits (chunk_bits h _)) (pad8_len (chunk_len _ _)) (by lia)]
  unfold strm
  have hm : a % 8 < 8 := by lia
  have e2 : 8 * (a / 8) + a % 8 = a := by lia
  by_cases hc : a < l.length
  · have hcl : a % 8 < (chunk l (a / 8)).length := by simp [chunk]; lia
    rw [pad8, List.getD, List.getElem?_append_left hcl, chunk, List.getElem?_take_of_lt hm, List.getElem?_drop, e2]
    rfl
  · have hcl : (chunk l (a / 8)).length ≤ a % 8 := by simp [chunk]; lia
    rw [pad8, List.getD, List.getElem?_append_right hcl, List.getD, List.getElem?_eq_none (by lia : l.length ≤ a)]
    cases hq : (List.replicate (8 - (chunk l (a / 8)).length) (0 : Int))[a % 8 - (chunk l (a / 8)).length]? with
    | none => rfl
    | some x => rw [List.eq_of_mem_replicate (List.mem_of_getElem? hq)]; rfl
theorem past_end {l : List Int} {a : Nat} (hb : ¬ a / 8 < (bytesOf l).length) : strm l a = 0 := by
  have hb' : ¬ a / 8 < (l.length + 7) / 8 := by simpa [bytesOf] using hb
  unfold strm
  rw [List.getD, List.getElem?_eq_none (by lia)]; rfl
end Mine

-- part Pl15d
set_option autoImplicit false
set_option linter.unusedVariables false
namespace Mine
open PySem
/- a plane of bits: what is written -/
noncomputable def kGreat (d near : Int) : MK := .t [.s (Str.ofString "great"), .i d, .i near]
noncomputable def kEmpty (d : Int) : MK := .t [.s (Str.ofString "empty"), .i d]
noncomputable def kSign : MK := .s (Str.ofString "sign")
noncomputable def kMore : MK := .s (Str.ofString "more")
structure Plx where
  n : Nat
  P : List Int
  D : List Int
  v : List Int
  U : List Int
  kn : Nat → Bool
  p : Nat
noncomputable def b01 (b : Prop) [Decidable b] : Int := if b then 1 else 0
theorem b01_bit (b : Prop) [Decidable b] : b01 b = 0 ∨ b01 b = 1 := by unfold b01; split <;> simp
theorem b01_one (b : Prop) [Decidable b] : b01 b = 1 ↔ b := by unfold b01; split <;> simp_all
noncomputable def Plx.near (x : Plx) (k : Nat) : Int := b01 (0 ≤ x.P.getD k 0 ∧ 2 ^ x.p ≤ av x.v (x.P.getD k 0).toNat)
noncomputable def Plx.ev1 (x : Plx) (cov : List Bool) (k : Nat) : Bool × List Ev :=
  if 0 ≤ x.P.getD k 0 ∧ cov.getD (x.P.getD k 0).toNat false = true then (true, [])
  else if 2 ^ (x.p + 1) ≤ av x.v k then (false, [])
  else if 2 ^ x.p ≤ av x.v k then (false, [(kGreat (x.D.getD k 0) (x.near k), 1), (kSign, b01 (x.v.getD k 0 < 0))])
  else if x.kn k = true then (decide (x.U.getD k 0 < 2 ^ x.p), [(kGreat (x.D.getD k 0) (x.near k), 0), (kEmpty (x.D.getD k 0), b01 (x.U.getD k 0 < 2 ^ x.p))])
  else (false, [(kGreat (x.D.getD k 0) (x.near k), 0)])
noncomputable def Plx.cov (x : Plx) : Nat → List Bool
  | 0 => List.replicate x.n false
  | k + 1 => (x.cov k).set k (x.ev1 (x.cov k) k).1
noncomputable def Plx.evs1 (x : Plx) : Nat → List Ev
  | 0 => []
  | k + 1 => x.evs1 k ++ (x.ev1 (x.cov k) k).2
noncomputable def Plx.ev2 (x : Plx) (k : Nat) : List Ev := if 2 ^ (x.p + 1) ≤ av x.v k then [(kMore, (av x.v k).fdiv (2 ^ x.p) % 2)] else []
noncomputable def Plx.evs2 (x : Plx) : Nat → List Ev
  | 0 => []
  | k + 1 => x.evs2 k ++ x.ev2 k
noncomputable def Plx.all (x : Plx) : List Ev := x.evs1 x.n ++ x.evs2 x.n
theorem Plx.cov_len (x : Plx) : ∀ k, (x.cov k).length = x.n
  | 0 => by simp [Plx.cov]
  | k + 1 => by rw [Plx.cov, List.length_set, x.cov_len k]
theorem Plx.ev1_len (x : Plx) (c : List Bool) (k : Nat) : (x.ev1 c k).2.length ≤ 2 := by
  unfold Plx.ev1
  repeat' split
  all_goals simp
theorem Plx.evs1_len (x : Plx) : ∀ k, (x.evs1 k).length ≤ 2 * k
  | 0 => by simp [Plx.evs1]
  | k + 1 => by have := x.evs1_len k; have := x.ev1_len (x.cov k) k; rw [Plx.evs1, List.length_append]; lia
theorem Plx.evs2_len (x : Plx) : ∀ k, (x.evs2 k).length ≤ k
  | 0 => by simp [Plx.evs2]
  | k + 1 => by
    have := x.evs2_len k
    have h2 : (x.ev2 k).length ≤ 1 := by unfold Plx.ev2; split <;> simp
    rw [Plx.evs2, List.length_append]; lia
theorem Plx.all_len (x : Plx) : x.all.length ≤ 3 * x.n := by have := x.evs1_len x.n; have := x.evs2_len x.n; rw [Plx.all, List.length_append]; lia
/-- a place's flag stays as it was set -/
theorem Plx.cov_at (x : Plx) {j : Nat} (hj : j < x.n) : ∀ {k : Nat}, j < k → (x.cov k).getD j false = (x.ev1 (x.cov j) j).1
  | k + 1, h => by
    rw [Plx.cov]
    by_cases e : j = k
    · subst e; simp [List.getD, x.cov_len, hj]
    · rw [List.getD, List.getElem?_set_ne (Ne.symm e)]; exact x.cov_at hj (by lia)
theorem Plx.cov_later (x : Plx) {j : Nat} : ∀ {k : Nat}, k ≤ j → (x.cov k).getD j false = false
  | 0, _ => by
    rw [Plx.cov, List.getD]
    cases h : (List.replicate x.n false)[j]? with
    | none => rfl
    | some b => rw [List.eq_of_mem_replicate (List.mem_of_getElem? h)]; rfl
  | k + 1, h => by rw [Plx.cov, List.getD, List.getElem?_set_ne (by lia)]; exact x.cov_later (by lia)
structure Plx.Ok (x : Plx) : Prop where
  up : ∀ k, k < x.n → x.P.getD k 0 < (k : Int)
  u1 : ∀ k, k < x.n → 0 ≤ x.P.getD k 0 → av x.v k ≤ x.U.getD (x.P.getD k 0).toNat 0 ∧ x.U.getD k 0 ≤ x.U.getD (x.P.getD k 0).toNat 0
  v : ∀ k, -50 ≤ x.v.getD k 0 ∧ x.v.getD k 0 ≤ 50
  p : x.p ≤ 5
  n : x.n ≤ 36
theorem Plx.covered {x : Plx} (ok : x.Ok) : ∀ k, k < x.n → (x.ev1 (x.cov k) k).1 = true → av x.v k < 2 ^ x.p ∧ x.U.getD k 0 < 2 ^ x.p := by
  intro k
  induction k using Nat.strongRecOn with
  | ind k ih =>
    intro hk h
    unfold Plx.ev1 at h
    split at h
    · rename_i hc
      obtain ⟨h0, h1⟩ := hc
      have up := ok.up k hk
      have hu : (x.P.getD k 0).toNat < k := by lia
      rw [x.cov_at (by lia) hu] at h1
      have hp := (ih _ hu (by lia) h1).2
      have := ok.u1 k hk h0
      lia
    · split at h
      · cases h
      · split at h
        · cases h
        · split at h
          · exact ⟨by lia, of_decide_eq_true h⟩
          · cases h
/- one number, cut down at a plane -/
noncomputable def cutv (v : Int) (p : Nat) : Int := if v < 0 then -((-v) / 2 ^ p * 2 ^ p) else v / 2 ^ p * 2 ^ p
noncomputable def avi (v : Int) : Int := if v < 0 then -v else v
/-- behind the first half of the reading -/
noncomputable def r1 (v : Int) (p : Nat) : Int := if 2 ^ (p + 1) ≤ avi v then cutv v (p + 1) else if 2 ^ p ≤ avi v then (if v < 0 then -2 ^ p else 2 ^ p) else 0
noncomputable def okAt (v : Int) (p : Nat) : Bool :=
  (decide (cutv v (p + 1) = 0) == !decide (2 ^ (p + 1) ≤ avi v)) &&
  (decide (2 ^ p ≤ avi (r1 v p)) == decide (2 ^ p ≤ avi v)) &&
  (decide (2 ^ (p + 1) ≤ avi v) || decide (r1 v p = cutv v p)) &&
  (!decide (2 ^ (p + 1) ≤ avi v) || decide (cutv v (p + 1) + (if (avi v).fdiv (2 ^ p) % 2 = 1 then (if 0 < cutv v (p + 1) then 2 ^ p else -2 ^ p) else 0) = cutv v p)) &&
  (decide (0 < (avi v).fdiv (2 ^ (p + 1))) == decide (2 ^ (p + 1) ≤ avi v)) &&
  (decide ((avi v).fdiv (2 ^ p) % 2 = 0) || decide ((avi v).fdiv (2 ^ p) % 2 = 1)) &&
  (!decide (avi v < 2 ^ p) || decide (cutv v p = 0)) &&
  decide (PySem.Builtin.bitAnd ((avi v).fdiv (2 ^ p)) 1 = (avi v).fdiv (2 ^ p) % 2) &&
  decide (cutv v 0 = v)
theorem okAll : ∀ i, i < 101 → ∀ p, p < 6 → okAt ((i : Nat) - 50 : Int) p = true := by decide +kernel
structure CutOk (v : Int) (p : Nat) : Prop where
  z : cutv v (p + 1) = 0 ↔ ¬ 2 ^ (p + 1) ≤ avi v
  near : 2 ^ p ≤ avi (r1 v p) ↔ 2 ^ p ≤ avi v
  lo : ¬ 2 ^ (p + 1) ≤ avi v → r1 v p = cutv v p
  more : 2 ^ (p + 1) ≤ avi v → cutv v (p + 1) + (if (avi v).fdiv (2 ^ p) % 2 = 1 then (if 0 < cutv v (p + 1) then 2 ^ p else -2 ^ p) else 0) = cutv v p
  shr : 0 < (avi v).fdiv (2 ^ (p + 1)) ↔ 2 ^ (p + 1) ≤ avi v
  bit : (avi v).fdiv (2 ^ p) % 2 = 0 ∨ (avi v).fdiv (2 ^ p) % 2 = 1
  small : avi v < 2 ^ p → cutv v p = 0
  and1 : PySem.Builtin.bitAnd ((avi v).fdiv (2 ^ p)) 1 = (avi v).fdiv (2 ^ p) % 2
  whole : cutv v 0 = v
theorem cut_ok {v : Int} {p : Nat} (h0 : -50 ≤ v) (h1 : v ≤ 50) (hp : p ≤ 5) : CutOk v p := by
  obtain ⟨i, hi, rfl⟩ : ∃ i : Nat, i < 101 ∧ v = (i : Int) - 50 := ⟨(v + 50).toNat, by lia, by lia⟩
  have h := okAll i hi p (by lia)
  unfold okAt at h
  generalize (i : Int) - 50 = v at *
  simp only [Bool.and_eq_true, beq_iff_eq, Bool.or_eq_true, Bool.not_eq_true', decide_eq_true_eq, decide_eq_false_iff_not] at h
  obtain ⟨⟨⟨⟨⟨⟨⟨⟨a1, a2⟩, a3⟩, a4⟩, a5⟩, a6⟩, a7⟩, a8⟩, a9⟩ := h
  refine ⟨?_, ?_, fun h => ?_, fun h => ?_, ?_, a6, fun h => ?_, a8, a9⟩
  · by_cases q : 2 ^ (p + 1) ≤ avi v
    · rw [decide_eq_true q] at a1; simp at a1; simp [a1, q]
    · rw [decide_eq_false q] at a1; simp at a1; simp [a1, q]
  · by_cases q : 2 ^ p ≤ avi v
    · rw [decide_eq_true q] at a2; simp at a2; simp [a2, q]
    · rw [decide_eq_false q] at a2
      have := of_decide_eq_false a2
      exact ⟨fun x => absurd x this, fun x => absurd x q⟩
  · exact a3.resolve_left h
  · exact a4.resolve_left (fun q => q h)
  · by_cases q : 2 ^ (p + 1) ≤ avi v
    · rw [decide_eq_true q] at a5; simp at a5; simp [a5, q]
    · rw [decide_eq_false q] at a5
      have := of_decide_eq_false a5
      exact ⟨fun x => absurd x this, fun x => absurd x q⟩
  · exact a7.resolve_left (fun q => q h)
theorem av_avi (v : List Int) (k : Nat) : av v k = avi (v.getD k 0) := rfl
theorem Plx.Ok.cut {x : Plx} (ok : x.Ok) (k : Nat) : CutOk (x.v.getD k 0) x.p := cut_ok (ok.v k).1 (ok.v k).2 ok.p
/-- the events from a place on -/
noncomputable def Plx.rest1 (x : Plx) (k : Nat) : Nat → List Ev
  | 0 => []
  | m + 1 => (x.ev1 (x.cov k) k).2 ++ x.rest1 (k + 1) m
theorem Plx.evs1_split (x : Plx) : ∀ m k, x.evs1 (k + m) = x.evs1 k ++ x.rest1 k m
  | 0, k => by simp [Plx.rest1]
  | m + 1, k => by
    rw [show k + (m + 1) = (k + 1) + m by lia, x.evs1_split m (k + 1), Plx.evs1, Plx.rest1, List.append_assoc]
theorem Plx.all1 (x : Plx) {k : Nat} (hk : k < x.n) : ∃ post, x.all = x.evs1 k ++ (x.ev1 (x.cov k) k).2 ++ post := by
  refine ⟨x.rest1 (k + 1) (x.n - k - 1) ++ x.evs2 x.n, ?_⟩
  rw [Plx.all]
  have := x.evs1_split (x.n - k - 1) (k + 1)
  rw [show k + 1 + (x.n - k - 1) = x.n by lia, Plx.evs1] at this
  rw [this]; simp
noncomputable def Plx.rest2 (x : Plx) (k : Nat) : Nat → List Ev
  | 0 => []
  | m + 1 => x.ev2 k ++ x.rest2 (k + 1) m
theorem Plx.evs2_split (x : Plx) : ∀ m k, x.evs2 (k + m) = x.evs2 k ++ x.rest2 k m
  | 0, k => by simp [Plx.rest2]
  | m + 1, k => by
    rw [show k + (m + 1) = (k + 1) + m by lia, x.evs2_split m (k + 1), Plx.evs2, Plx.rest2, List.append_assoc]
theorem Plx.all2 (x : Plx) {k : Nat} (hk : k < x.n) : ∃ post, x.all = (x.evs1 x.n ++ x.evs2 k) ++ x.ev2 k ++ post := by
  refine ⟨x.rest2 (k + 1) (x.n - k - 1), ?_⟩
  rw [Plx.all]
  have := x.evs2_split (x.n - k - 1) (k + 1)
  rw [show k + 1 + (x.n - k - 1) = x.n by lia, Plx.evs2] at this
  rw [this]; simp
end Mine

-- part Pl15e
set_option autoImplicit false
set_option linter.unusedVariables false
namespace Mine
open PySem
/- the law's own questions -/
noncomputable def halfOf (p : Nat) : Int := ((2 : Int) ^ p).fdiv (2 ^ 1)
noncomputable def midv (x : Int) (p : Nat) : Int := if 0 < x then x + halfOf p else if x < 0 then x - halfOf p else 0
noncomputable def pcd (v : Int) (p : Nat) : Int := if (avi v).fdiv (2 ^ p) = 0 then 0 else if v < 0 then -((avi v).fdiv (2 ^ p) * 2 ^ p + halfOf p) else (avi v).fdiv (2 ^ p) * 2 ^ p + halfOf p
noncomputable def okAt2 (v : Int) (p : Nat) : Bool :=
  decide (midv (cutv v p) p = pcd v p) &&
  decide (((avi (cutv v p)).fdiv (2 ^ p)).fmod 2 = ((avi v).fdiv (2 ^ p)).fmod 2) &&
  (decide (cutv v (p + 1) = 0 ∧ cutv v p ≠ 0) == decide ((avi v).fdiv (2 ^ p) = 1)) &&
  (!decide ((avi v).fdiv (2 ^ p) = 1) || (decide (cutv v p < 0) == decide (v < 0)))
theorem okAll2 : ∀ i, i < 101 → ∀ p, p < 6 → okAt2 ((i : Nat) - 50 : Int) p = true := by decide +kernel
structure AskOk (v : Int) (p : Nat) : Prop where
  mid : midv (cutv v p) p = pcd v p
  bit : ((avi (cutv v p)).fdiv (2 ^ p)).fmod 2 = ((avi v).fdiv (2 ^ p)).fmod 2
  new : decide (cutv v (p + 1) = 0 ∧ cutv v p ≠ 0) = decide ((avi v).fdiv (2 ^ p) = 1)
  sign : (avi v).fdiv (2 ^ p) = 1 → decide (cutv v p < 0) = decide (v < 0)
theorem ask_ok {v : Int} {p : Nat} (h0 : -50 ≤ v) (h1 : v ≤ 50) (hp : p ≤ 5) : AskOk v p := by
  obtain ⟨i, hi, rfl⟩ : ∃ i : Nat, i < 101 ∧ v = (i : Int) - 50 := ⟨(v + 50).toNat, by lia, by lia⟩
  have h := okAll2 i hi p (by lia)
  unfold okAt2 at h
  generalize (i : Int) - 50 = v at *
  simp only [Bool.and_eq_true, Bool.or_eq_true, Bool.not_eq_true', decide_eq_true_eq, decide_eq_false_iff_not] at h
  obtain ⟨⟨⟨a1, a2⟩, a3⟩, a4⟩ := h
  exact ⟨a1, a2, eq_of_beq a3, fun q => eq_of_beq (a4.resolve_left fun z => z q)⟩
noncomputable def bitsOf (v : Int) : Nat := PySem.Builtin.Int.intBits (avi v)
noncomputable def okAt3 (v : Int) : Bool := decide (bitsOf v ≤ 6) && (List.range 12).all (fun q => decide ((2 : Int) ^ q ≤ avi v) == decide (q < bitsOf v)) && (List.range 7).all fun q => !decide (bitsOf v ≤ q) || decide (cutv v q = 0)
theorem okAll3 : ∀ i, i < 101 → okAt3 ((i : Nat) - 50 : Int) = true := by decide +kernel
structure DepOk (v : Int) : Prop where
  le : bitsOf v ≤ 6
  pow : ∀ q, q < 12 → ((2 : Int) ^ q ≤ avi v ↔ q < bitsOf v)
  cut : ∀ q, q ≤ 6 → bitsOf v ≤ q → cutv v q = 0
theorem dep_ok {v : Int} (h0 : -50 ≤ v) (h1 : v ≤ 50) : DepOk v := by
  obtain ⟨i, hi, rfl⟩ : ∃ i : Nat, i < 101 ∧ v = (i : Int) - 50 := ⟨(v + 50).toNat, by lia, by lia⟩
  have h := okAll3 i hi
  unfold okAt3 at h
  generalize (i : Int) - 50 = v at *
  simp only [Bool.and_eq_true, List.all_eq_true, List.mem_range, decide_eq_true_eq, Bool.or_eq_true, Bool.not_eq_true', decide_eq_false_iff_not] at h
  obtain ⟨⟨a1, a2⟩, a3⟩ := h
  refine ⟨a1, fun q hq => ?_, fun q hq hb => (a3 q (by lia)).resolve_left fun z => z hb⟩
  have := eq_of_beq (a2 q hq)
  exact ⟨fun z => of_decide_eq_true (this ▸ decide_eq_true z), fun z => of_decide_eq_true (this.symm ▸ decide_eq_true z)⟩
noncomputable def Small50 (v : List Int) : Prop := ∀ a ∈ v, -50 ≤ a ∧ a ≤ 50
theorem small_get {v : List Int} (h : Small50 v) (k : Nat) : -50 ≤ v.getD k 0 ∧ v.getD k 0 ≤ 50 := by
  rw [List.getD]
  cases hk : v[k]? with
  | none => simp
  | some a => exact h a (List.mem_of_getElem? hk)
/-- the highest plane -/
structure Deep (v : List Int) (m : Nat) : Prop where
  mem : m = 0 ∨ ∃ a ∈ v, m = bitsOf a
  le : ∀ a ∈ v, bitsOf a ≤ m
theorem Deep.six {v : List Int} {m : Nat} (h : Deep v m) (hv : Small50 v) : m ≤ 6 := by
  rcases h.mem with h | ⟨a, ha, rfl⟩
  · lia
  · exact (dep_ok (hv a ha).1 (hv a ha).2).le
theorem Deep.any {v : List Int} {m : Nat} (h : Deep v m) (hv : Small50 v) {q : Nat} (hq : q < 12) : (∃ a ∈ v, (2 : Int) ^ q ≤ avi a) ↔ q < m := by
  constructor
  · rintro ⟨a, ha, hp⟩
    have := ((dep_ok (hv a ha).1 (hv a ha).2).pow q hq).mp hp
    have := h.le a ha
    lia
  · intro hm
    rcases h.mem with h0 | ⟨a, ha, rfl⟩
    · lia
    · exact ⟨a, ha, ((dep_ok (hv a ha).1 (hv a ha).2).pow q hq).mpr hm⟩
theorem count_lt {m : Nat} (hm : m ≤ 12) : ((List.range 12).filter fun q => decide (q < m)).length = m := by
  have : ∀ m, m < 13 → ((List.range 12).filter fun q => decide (q < m)).length = m := by decide +kernel
  exact this m (by lia)
theorem Deep.start {v : List Int} {m : Nat} (h : Deep v m) (hv : Small50 v) : List.replicate v.length (0 : Int) = v.map (cutv · m) := by
  have h6 := h.six hv
  refine List.ext_getElem? fun i => ?_
  by_cases hi : i < v.length
  · have := (dep_ok (hv v[i] (List.getElem_mem hi)).1 (hv v[i] (List.getElem_mem hi)).2).cut m h6 (h.le _ (List.getElem_mem hi))
    simp [hi, this]
  · rw [List.getElem?_eq_none (by simp; lia), List.getElem?_eq_none (by simp; lia)]
theorem whole {v : List Int} (hv : Small50 v) : v.map (cutv · 0) = v := by
  conv => rhs; rw [← List.map_id v]
  refine List.map_congr_left fun a ha => (cut_ok (hv a ha).1 (hv a ha).2 (Nat.zero_le 5)).whole
theorem mids {v : List Int} {p : Nat} (hv : Small50 v) (hp : p ≤ 5) : (v.map (cutv · p)).map (midv · p) = v.map (pcd · p) := by
  rw [List.map_map]
  exact List.map_congr_left fun a ha => (ask_ok (hv a ha).1 (hv a ha).2 hp).mid
theorem bitss {v : List Int} {p : Nat} (hv : Small50 v) (hp : p ≤ 5) : (v.map (cutv · p)).map (fun a => ((avi a).fdiv (2 ^ p)).fmod 2) = v.map fun a => ((avi a).fdiv (2 ^ p)).fmod 2 := by
  rw [List.map_map]
  exact List.map_congr_left fun a ha => (ask_ok (hv a ha).1 (hv a ha).2 hp).bit
noncomputable def newOnes (v : List Int) (p : Nat) : List Bool := ((List.range v.length).filter fun k => decide ((avi (v.getD k 0)).fdiv (2 ^ p) = 1)).map fun k => decide (v.getD k 0 < 0)
theorem news {v : List Int} {p : Nat} (hv : Small50 v) (hp : p ≤ 5) : (((List.range v.length).filter fun k => decide (cutv (v.getD k 0) (p + 1) = 0) && decide (cutv (v.getD k 0) p ≠ 0)).map fun k => decide (cutv (v.getD k 0) p < 0)) = newOnes v p := by
  unfold newOnes
  have e : ((List.range v.length).filter fun k => decide (cutv (v.getD k 0) (p + 1) = 0) && decide (cutv (v.getD k 0) p ≠ 0)) = (List.range v.length).filter fun k => decide ((avi (v.getD k 0)).fdiv (2 ^ p) = 1) := by
    refine List.filter_congr fun k _ => ?_
    rw [← (ask_ok (small_get hv k).1 (small_get hv k).2 hp).new, Bool.decide_and]
  rw [e]
  refine List.map_congr_left fun k hk => ?_
  exact (ask_ok (small_get hv k).1 (small_get hv k).2 hp).sign (of_decide_eq_true (List.mem_filter.mp hk).2)
end Mine

-- part Aw36
set_option autoImplicit false
set_option linter.unusedVariables false
namespace Mine
open PySem PySem.W PyProof.Rows

/- the model of counts in the abstract heap -/
abbrev RW := List (MK × Nat × Nat)
noncomputable def esOf (rs : RW) : MD := rs.map fun e => (e.1, e.2.1, V.ref e.2.2)
noncomputable def rowO (r : Int × Int) : O := .list [.int r.1, .int r.2]
noncomputable def mns (m : Nat) : List (Str × V) := [(Str.ofString "counts", .ref (m + 2))]
structure ModAt (Cl : Addr) (σ : AH) (m : Nat) (rs : RW) (M : Cts) : Prop where
  ns : σ[m]? = some (.ns (mns m))
  inst : σ[m + 1]? = some (.inst Cl m)
  dict : σ[m + 2]? = some (.mdict (esOf rs))
  keyed : MKeyed σ (esOf rs)
  nd : (rs.map (·.1)).Nodup
  rnd : (rs.map (·.2.2)).Nodup
  rows : ∀ e ∈ rs, σ[e.2.2]? = some (rowO (M e.1))
  others : ∀ k, k ∉ rs.map (·.1) → M k = (1, 1)
  pos : ∀ e ∈ rs, m + 2 < e.2.2
structure MExt (σ σ' : AH) (m : Nat) (rs rs' : RW) : Prop where
  len : σ.length ≤ σ'.length
  same : ∀ i, i < σ.length → i ≠ m + 2 → (∀ e ∈ rs, i ≠ e.2.2) → σ'[i]? = σ[i]?
  new : ∀ e ∈ rs', e ∈ rs ∨ σ.length ≤ e.2.2
  cnt : rs'.length ≤ rs.length + 1
theorem MExt.refl {σ : AH} {m : Nat} {rs : RW} : MExt σ σ m rs rs := ⟨Nat.le_refl _, fun _ _ _ _ => rfl, fun e h => .inl h, Nat.le_succ _⟩
theorem esOf_keys (rs : RW) : (esOf rs).map (·.1) = rs.map (·.1) := by unfold esOf; rw [List.map_map]; rfl
theorem esOf_fnd {rs : RW} {k : MK} : ∀ {v : V}, mfnd (esOf rs) k = some v → ∃ t r, (k, t, r) ∈ rs ∧ v = .ref r := by
  induction rs with
  | nil => intro v h; cases h
  | cons e rs ih =>
    intro v h
    by_cases hk : e.1 = k
    · simp [mfnd, esOf, hk] at h
      subst hk
      exact ⟨e.2.1, e.2.2, .head _, h.symm⟩
    · have : mfnd (esOf rs) k = some v := by simpa [mfnd, esOf, hk] using h
      obtain ⟨t, r, h1, h2⟩ := ih this
      exact ⟨t, r, .tail _ h1, h2⟩
theorem esOf_none {rs : RW} {k : MK} (h : mfnd (esOf rs) k = none) : k ∉ rs.map (·.1) := by
  induction rs with
  | nil => simp
  | cons e rs ih =>
    by_cases hk : e.1 = k
    · simp [mfnd, esOf, hk] at h
    · have h' : mfnd (esOf rs) k = none := by simpa [mfnd, esOf, hk] using h
      have := ih h'
      intro hm
      rw [List.map_cons] at hm
      rcases List.mem_cons.mp hm with rfl | hm
      · exact hk rfl
      · exact this hm
theorem esOf_snoc (rs : RW) (k : MK) (t r : Nat) : esOf (rs ++ [(k, t, r)]) = esOf rs ++ [(k, t, V.ref r)] := by simp [esOf]
theorem esOf_fnd_snoc {rs : RW} {k : MK} {t r : Nat} (h : mfnd (esOf rs) k = none) : mfnd (esOf (rs ++ [(k, t, r)])) k = some (.ref r) := by
  rw [esOf_snoc]
  unfold mfnd at *
  rw [List.find?_append]
  have : (esOf rs).find? (fun e => decide (e.1 = k)) = none := by simpa using h
  rw [this]; simp
theorem nodup_eq {α β : Type} (f : α → β) : ∀ {l : List α}, (l.map f).Nodup → ∀ {a b : α}, a ∈ l → b ∈ l → f a = f b → a = b
  | [], _, a, _, ha, _, _ => by cases ha
  | x :: l, h, a, b, ha, hb, e => by
    rw [List.map_cons, List.nodup_cons] at h
    rcases List.mem_cons.mp ha with e1 | ha' <;> rcases List.mem_cons.mp hb with e2 | hb'
    · rw [e1, e2]
    · exact absurd (List.mem_map.mpr ⟨b, hb', by rw [← e, e1]⟩) h.1
    · exact absurd (List.mem_map.mpr ⟨a, ha', by rw [e, e2]⟩) h.1
    · exact nodup_eq f h.2 ha' hb' e
/-- objects may change where no object of the model lies -/
theorem ModAt.frame {Cl : Addr} {σ σ' : AH} {m : Nat} {rs : RW} {M : Cts} (h : ModAt Cl σ m rs M) (h0 : σ'[m]? = σ[m]?) (h1 : σ'[m + 1]? = σ[m + 1]?) (h2 : σ'[m + 2]? = σ[m + 2]?) (h3 : ∀ e ∈ rs, σ'[e.2.2]? = σ[e.2.2]?) (h4 : ∀ (i : Nat) xs, σ[i]? = some (.tuple xs) → σ'[i]? = some (.tuple xs)) : ModAt Cl σ' m rs M := by
  refine ⟨h0.trans h.ns, h1.trans h.inst, h2.trans h.dict, fun e he => ?_, h.nd, h.rnd, fun e he => (h3 e he).trans (h.rows e he), h.others, h.pos⟩
  have := h.keyed e he
  cases hk : e.1 with
  | s x => trivial
  | t ks => rw [hk] at this; exact h4 _ _ this
theorem ModAt.set_row {Cl : Addr} {σ : AH} {m : Nat} {rs : RW} {M : Cts} {k : MK} {t r : Nat} (h : ModAt Cl σ m rs M) (hm : (k, t, r) ∈ rs) (p : Int × Int) : ModAt Cl (σ.set r (rowO p)) m rs (fun k' => if k' = k then p else M k') := by
  have hp := h.pos _ hm
  have hr := h.rows _ hm
  dsimp only at hp hr
  refine ⟨?_, ?_, ?_, fun e he => ?_, h.nd, h.rnd, fun e he => ?_, fun k' hk' => ?_, h.pos⟩
  · rw [List.getElem?_set_ne (by lia)]; exact h.ns
  · rw [List.getElem?_set_ne (by lia)]; exact h.inst
  · rw [List.getElem?_set_ne (by lia)]; exact h.dict
  · have := h.keyed e he
    cases hk : e.1 with
    | s x => trivial
    | t ks =>
      rw [hk] at this
      dsimp only at this ⊢
      rw [List.getElem?_set_ne]
      · exact this
      · intro q; rw [← q, hr] at this; cases this
  · by_cases hk : e.1 = k
    · have := nodup_eq (fun e : MK × Nat × Nat => e.1) h.nd he hm hk
      subst this
      rw [List.getElem?_set_self (List.getElem?_eq_some_iff.mp hr).1, if_pos rfl]
    · rw [if_neg hk, List.getElem?_set_ne]
      · exact h.rows e he
      · intro q
        have := nodup_eq (fun e : MK × Nat × Nat => e.2.2) h.rnd hm he q
        exact hk (by rw [← this])
  · have : k' ≠ k := fun q => hk' (List.mem_map.mpr ⟨_, hm, q.symm⟩)
    rw [if_neg this]; exact h.others k' hk'
theorem ModAt.congr {Cl : Addr} {σ : AH} {m : Nat} {rs : RW} {M M' : Cts} (h : ModAt Cl σ m rs M) (e : ∀ k, M k = M' k) : ModAt Cl σ m rs M' := by
  have : M = M' := funext e
  subst this; exact h
/-- a new row -/
theorem ModAt.add {Cl : Addr} {σ : AH} {m : Nat} {rs : RW} {M : Cts} {k : MK} {t : Nat} {kv : V} (h : ModAt Cl σ m rs M) (hn : mfnd (esOf rs) k = none) (hk : KeyV σ k t kv) : ModAt Cl ((σ ++ [rowO (1, 1)]).set (m + 2) (.mdict (esOf rs ++ [(k, t, .ref σ.length)]))) m (rs ++ [(k, t, σ.length)]) M := by
  have hd := (List.getElem?_eq_some_iff.mp h.dict).1
  have hnk := esOf_none hn
  have low : ∀ {i : Nat} {o : O}, σ[i]? = some o → i ≠ m + 2 → ((σ ++ [rowO (1, 1)]).set (m + 2) (.mdict (esOf rs ++ [(k, t, .ref σ.length)])))[i]? = some o := fun hi hne => by
    rw [List.getElem?_set_ne (Ne.symm hne), List.getElem?_append_left (List.getElem?_eq_some_iff.mp hi).1]; exact hi
  have tup : ∀ {i : Nat} {xs : List V}, σ[i]? = some (.tuple xs) → ((σ ++ [rowO (1, 1)]).set (m + 2) (.mdict (esOf rs ++ [(k, t, .ref σ.length)])))[i]? = some (.tuple xs) := fun hi => low hi fun q => by rw [q, h.dict] at hi; cases hi
  have rlt : ∀ e ∈ rs, e.2.2 < σ.length := fun e he => (List.getElem?_eq_some_iff.mp (h.rows e he)).1
  refine ⟨low h.ns (by lia), low h.inst (by lia), ?_, ?_, ?_, ?_, ?_, ?_, ?_⟩
  · rw [List.getElem?_set_self (by simp; lia), esOf_snoc]
  · rw [esOf_snoc]
    intro e he
    rcases List.mem_append.mp he with he | he
    · have := h.keyed e he
      cases hk : e.1 with
      | s x => trivial
      | t ks => rw [hk] at this; exact tup this
    · rw [List.mem_singleton] at he
      subst he
      cases k with
      | s x => trivial
      | t ks => exact tup hk.2
  · rw [List.map_append, List.nodup_append]
    refine ⟨h.nd, by simp, ?_⟩
    intro x hx y hy e
    simp only [List.map_cons, List.map_nil, List.mem_singleton] at hy
    subst hy e; exact hnk hx
  · rw [List.map_append, List.nodup_append]
    refine ⟨h.rnd, by simp, ?_⟩
    intro x hx y hy e
    simp only [List.map_cons, List.map_nil, List.mem_singleton] at hy
    subst hy e
    obtain ⟨e', he', e2⟩ := List.mem_map.mp hx
    have := rlt e' he'
    lia
  · intro e he
    rcases List.mem_append.mp he with he | he
    · exact low (h.rows e he) (by have := h.pos e he; lia)
    · rw [List.mem_singleton] at he
      subst he
      rw [List.getElem?_set_ne (show m + 2 ≠ σ.length by lia), h.others k hnk]
      simp
  · intro k' hk'
    exact h.others k' fun q => hk' (by rw [List.map_append]; exact List.mem_append_left _ q)
  · intro e he
    rcases List.mem_append.mp he with he | he
    · exact h.pos e he
    · rw [List.mem_singleton] at he
      subst he
      exact hd
theorem MExt.add {σ : AH} {m : Nat} {rs : RW} {k : MK} {t : Nat} {es : MD} : MExt σ ((σ ++ [rowO (1, 1)]).set (m + 2) (.mdict es)) m rs (rs ++ [(k, t, σ.length)]) := by
  refine ⟨by simp, fun i hi hne _ => ?_, fun e he => ?_, by simp⟩
  · rw [List.getElem?_set_ne (Ne.symm hne), List.getElem?_append_left hi]
  · rcases List.mem_append.mp he with he | he
    · exact .inl he
    · rw [List.mem_singleton] at he
      subst he; exact .inr (Nat.le_refl _)
theorem MExt.row {σ σ' : AH} {m : Nat} {rs rs' : RW} {r : Nat} {o : O} (h : MExt σ σ' m rs rs') (hr : (∃ e ∈ rs, e.2.2 = r) ∨ σ.length ≤ r) : MExt σ (σ'.set r o) m rs rs' := by
  refine ⟨by rw [List.length_set]; exact h.len, fun i hi hne hn => ?_, h.new, h.cnt⟩
  rw [List.getElem?_set_ne]
  · exact h.same i hi hne hn
  · rintro rfl
    rcases hr with ⟨e, he, e2⟩ | hr
    · exact hn e he e2.symm
    · lia
theorem KeyV.ext {σ σ' : AH} {m : Nat} {rs rs' : RW} {k : MK} {t : Nat} {kv : V} {Cl : Addr} {M : Cts} (hk : KeyV σ k t kv) (h : ModAt Cl σ m rs M) (x : MExt σ σ' m rs rs') : KeyV σ' k t kv := by
  cases k with
  | s x => exact hk
  | t ks =>
    refine ⟨hk.1, ?_⟩
    rw [x.same t (List.getElem?_eq_some_iff.mp hk.2).1 (fun q => by have := hk.2; rw [q, h.dict] at this; cases this) fun e he q => by have := hk.2; rw [q, h.rows e he] at this; cases this]
    exact hk.2
end Mine

-- part Aw37
set_option autoImplicit false
set_option linter.unusedVariables false
namespace Mine
open PySem PySem.W PyProof.Rows
section
variable {C : Cx} {A : Around} {env : Env} {ρ : Loc} {σ : AH} {E : EX}
theorem WIf.conseq {r : Bool} {ifs : List PySem.Expr} {Q Q' : Bool → AH → Prop} (h : WIf C A env r ifs ρ σ Q E) (hq : ∀ b σ1, Q b σ1 → Q' b σ1) : WIf C A env r ifs ρ σ Q' E := by
  refine ⟨?_⟩
  intro ad s hr er
  refine wpAny_mono (h.run ad s hr er) ?_ fun _ _ x => x
  rintro b s1 ⟨ad1, σ1, n1, h1⟩
  exact ⟨ad1, σ1, n1, hq _ _ h1⟩
/-- a comprehension with tests; its elements are plain values -/
theorem CompGo_filter {l2 : List (Str × Value)} {sc : Scope} {x : Str} {ifs : List PySem.Expr} {elt : PySem.Expr} {capt : Loc} {K : List V → AH → Prop} {n : Nat} {P : Nat → V} {Cd : AH → Prop} {σ1 : AH} (tb : Nat → Bool) (g : Nat → V) (hz : n ≤ sizeLine) (hcd : ∀ J, Cd (σ1 ++ J))
    (h : ∀ i pv J, i < n → P i = pv → ∀ cenv, Kn cenv (relab sc.names) → WIf (C.wg l2) A cenv true ifs ((x, some pv) :: capt) (σ1 ++ J) (fun b σ2 => b = tb i ∧ ∃ J', σ2 = σ1 ++ J') (fun _ _ => False))
    (he : ∀ i pv J, i < n → P i = pv → tb i = true → ∀ cenv, Kn cenv (relab sc.names) → WE (C.wg l2) A cenv elt ((x, some pv) :: capt) (σ1 ++ J) (fun v σ3 => v = g i ∧ ∃ J', σ3 = σ1 ++ J') (fun _ _ => False))
    (hk : ∀ J, K (((List.range n).filter tb).map g) (σ1 ++ J)) : CompGo C A l2 sc x ifs elt capt K n P Cd σ1 := by
  refine ⟨hz, fun i acc σ' => ∃ J, σ' = σ1 ++ J ∧ acc = ((List.range i).filter tb).map g, ⟨[], by simp, rfl⟩, ?_, ?_⟩
  · rintro i acc σ' pv hi hp ⟨J, rfl, rfl⟩
    refine ⟨hcd J, fun cenv hc => (h i pv J hi hp cenv hc).conseq ?_⟩
    rintro b σ2 ⟨rfl, J', rfl⟩
    cases ht : tb i with
    | true =>
      rw [if_pos rfl]
      refine (he i pv J' hi hp ht cenv hc).conseq ?_
      rintro v σ3 ⟨rfl, J'', rfl⟩
      exact ⟨J'', rfl, by rw [List.range_succ, List.filter_append]; simp [ht]⟩
    | false =>
      rw [if_neg (by decide)]
      exact ⟨J', rfl, by rw [List.range_succ, List.filter_append]; simp [ht]⟩
  · rintro acc σ' ⟨J, rfl, rfl⟩
    exact ⟨hcd J, hk J⟩
end
end Mine

-- part Aw38
set_option autoImplicit false
set_option linter.unusedVariables false
namespace Mine
open PySem PySem.W PyProof.Rows

/- quiet expressions in one step: no heap, no call -/
noncomputable def qcmp : CmpOp → Int → Int → Option Bool
  | .Lt, a, b => some (decide (a < b))
  | .Gt, a, b => some (decide (b < a))
  | .LtE, a, b => some (decide (a ≤ b))
  | .GtE, a, b => some (decide (b ≤ a))
  | .Eq, a, b => some (a == b)
  | .NotEq, a, b => some (a != b)
  | _, _, _ => none
inductive Qv (l : List (Str × Value)) (ρ : Loc) : PySem.Expr → V → Prop
  | name {x : Str} {p : Pos} {v : V} (h : (x, some v) ∈ ρ) : Qv l ρ (.Name x p) v
  | glob {x : Str} {p : Pos} {i : Int} {t : Tok} (h : (x, Value.int i t) ∈ l) : Qv l ρ (.Name x p) (.int i)
  | int {i : Int} {k : Nat} {p : Pos} : Qv l ρ (.Constant (.int i) k p) (.int i)
  | str {i : Str} {k : Nat} {p : Pos} : Qv l ρ (.Constant (.str i) k p) (.str i)
  | bool {i : Bool} {k : Nat} {p : Pos} : Qv l ρ (.Constant (.bool i) k p) (.bool i)
  | none {k : Nat} {p : Pos} : Qv l ρ (.Constant .none k p) .none
  | add {x y : PySem.Expr} {p : Pos} {a b : Int} (hx : Qv l ρ x (.int a)) (hy : Qv l ρ y (.int b)) : Qv l ρ (.BinOp x .Add y p) (.int (a + b))
  | sub {x y : PySem.Expr} {p : Pos} {a b : Int} (hx : Qv l ρ x (.int a)) (hy : Qv l ρ y (.int b)) : Qv l ρ (.BinOp x .Sub y p) (.int (a - b))
  | neg {x : PySem.Expr} {p : Pos} {a : Int} (hx : Qv l ρ x (.int a)) : Qv l ρ (.UnaryOp .USub x p) (.int (-a))
  | cmp {x y : PySem.Expr} {p : Pos} {a b : Int} {op : CmpOp} {c : Bool} (hx : Qv l ρ x (.int a)) (hy : Qv l ρ y (.int b)) (hc : qcmp op a b = some c) : Qv l ρ (.Compare x [op] [y] p) (.bool c)
inductive QvL (l : List (Str × Value)) (ρ : Loc) : List PySem.Expr → List V → Prop
  | nil : QvL l ρ [] []
  | cons {e : PySem.Expr} {es : List PySem.Expr} {v : V} {vs : List V} (h : Qv l ρ e v) (r : QvL l ρ es vs) : QvL l ρ (e :: es) (v :: vs)
section
variable {C : Cx} {A : Around} {env : Env} {l : List (Str × Value)} {ρ : Loc} {σ : AH} {E : EX}
theorem Qv.set {e : PySem.Expr} {v : V} (h : Qv l ρ e v) : isSetE e = false := by cases h <;> rfl
theorem Qv.star {e : PySem.Expr} {v : V} (h : Qv l ρ e v) : starE e = false := by cases h <;> rfl
theorem cmp_ii {op : CmpOp} {a b : Int} {c : Bool} {Q : V → AH → Prop} (hc : qcmp op a b = some c) (h : Q (.bool c) σ) : WOp2 C A (compareOp op) (.int a) (.int b) σ Q E := by
  cases op <;> first | (injection hc with hc; subst hc; first | exact lt_ii h | exact gt_ii h | exact le_ii h | exact ge_ii h | exact eq_ii h | exact ne_ii h) | cases hc
theorem WE_ev {e : PySem.Expr} {v : V} {Q : V → AH → Prop} (h : Qv l ρ e v) (hq : Q v σ) : WE (C.wg l) A env e ρ σ Q E := by
  induction h generalizing Q with
  | name h => exact WE_name h hq
  | glob h => exact WE_globi h hq
  | int => exact WE_int hq
  | str => exact WE_str hq
  | bool => exact WE_bool hq
  | none => exact WE_none hq
  | add _ _ i1 i2 => exact WE_BinOp (i1 (i2 (add_ii hq)))
  | sub _ _ i1 i2 => exact WE_BinOp (i1 (i2 (sub_ii hq)))
  | neg _ i1 => exact WE_UnaryOp (i1 (neg_i hq))
  | cmp h1 h2 hc i1 i2 => exact WE_Compare1 (i1 (i2 (cmp_ii hc hq))) h2.set
theorem WL_ev {es : List PySem.Expr} {vs : List V} {Q : List V → AH → Prop} (h : QvL l ρ es vs) (hq : Q vs σ) : WL (C.wg l) A env es ρ σ Q E := by
  induction h generalizing Q with
  | nil => exact WL_nil hq
  | cons h _ ih => exact WL_cons (WE_ev h (ih hq)) h.star
theorem WL_consE {e : PySem.Expr} {es : List PySem.Expr} {v : V} {Q : List V → AH → Prop} (h : Qv l ρ e v) (hq : WL (C.wg l) A env es ρ σ (fun vs => Q (v :: vs)) E) : WL (C.wg l) A env (e :: es) ρ σ Q E :=
  WL_cons (WE_ev h hq) h.star
/- one side quiet -/
theorem WE_BinR {x y : PySem.Expr} {op : Operator} {p : Pos} {b : V} {Q : V → AH → Prop} (h : Qv l ρ y b) (hq : WE (C.wg l) A env x ρ σ (fun a σ1 => WOp2 (C.wg l) A (binaryOp op) a b σ1 Q E) E) : WE (C.wg l) A env (.BinOp x op y p) ρ σ Q E :=
  WE_BinOp (hq.mono fun _ _ w => WE_ev h w)
theorem WE_BinL {x y : PySem.Expr} {op : Operator} {p : Pos} {a : V} {Q : V → AH → Prop} (h : Qv l ρ x a) (hq : WE (C.wg l) A env y ρ σ (fun b σ1 => WOp2 (C.wg l) A (binaryOp op) a b σ1 Q E) E) : WE (C.wg l) A env (.BinOp x op y p) ρ σ Q E :=
  WE_BinOp (WE_ev h hq)
theorem WE_CmpR {x y : PySem.Expr} {op : CmpOp} {p : Pos} {b : V} {Q : V → AH → Prop} (h : Qv l ρ y b) (hq : WE (C.wg l) A env x ρ σ (fun a σ1 => WOp2 (C.wg l) A (compareOp op) a b σ1 Q E) E) : WE (C.wg l) A env (.Compare x [op] [y] p) ρ σ Q E :=
  WE_Compare1 (hq.mono fun _ _ w => WE_ev h w) h.set
theorem WB_CmpR {x y : PySem.Expr} {op : CmpOp} {p : Pos} {b : V} {Q : Bool → AH → Prop} (h : Qv l ρ y b) (hq : WE (C.wg l) A env x ρ σ (fun a σ1 => WOp2 (C.wg l) A (compareOp op) a b σ1 (fun c σ3 => WTr (C.wg l) A c σ3 Q E) E) E) : WB (C.wg l) A env (.Compare x [op] [y] p) ρ σ Q E :=
  WB_Compare1 (hq.mono fun _ _ w => WE_ev h w) h.set
theorem WE_SubR {x y : PySem.Expr} {p : Pos} {b : V} {Q : V → AH → Prop} (h : Qv l ρ y b) (hq : WE (C.wg l) A env x ρ σ (fun a σ1 => WSub (C.wg l) A x y a b σ1 Q E) E) : WE (C.wg l) A env (.Subscript x y p) ρ σ Q E :=
  WE_Sub (hq.mono fun _ _ w => WE_ev h w)
theorem WE_attrN {x attr : Str} {p pos : Pos} {v : V} {Q : V → AH → Prop} (h : (x, some v) ∈ ρ) (hq : WAt C A v attr σ Q E) : WE C A env (.Attribute (.Name x p) attr pos) ρ σ Q E := WE_attr (WE_name h hq)
/- whole statements -/
theorem WSs_asgW {x : Str} {p pos : Pos} {e : PySem.Expr} {rest : List Stmt} {Q : Fl → Loc → AH → Prop} (h : WE C A env e ρ σ (fun v σ1 => ∃ ρ', Up x (some v) ρ ρ' ∧ WSs C A env rest ρ' σ1 Q E) E) (hs : isCompE e = false := by rfl) : WSs C A env (.Assign [.Name x p] e pos :: rest) ρ σ Q E :=
  WSs_cons (WS_assign (h.mono fun _ _ ⟨ρ', u, w⟩ => ⟨ρ', u, ⟨w⟩⟩) hs)
theorem WSs_retE {e : PySem.Expr} {v : V} {pos : Pos} {rest : List Stmt} {Q : Fl → Loc → AH → Prop} (h : Qv l ρ e v) (hq : Q (.ret v) ρ σ) : WSs (C.wg l) A env (.Return (some e) pos :: rest) ρ σ Q E :=
  WSs_cons (WS_return (WE_ev h ⟨hq⟩))
theorem WSs_ret {e : PySem.Expr} {pos : Pos} {rest : List Stmt} {Q : Fl → Loc → AH → Prop} (h : WE C A env e ρ σ (fun v σ1 => Q (.ret v) ρ σ1) E) : WSs C A env (.Return (some e) pos :: rest) ρ σ Q E :=
  WSs_cons (WS_return (h.mono fun _ _ w => ⟨w⟩))
theorem WSs_if {test : PySem.Expr} {body orelse : List Stmt} {pos : Pos} {rest : List Stmt} {Q : Fl → Loc → AH → Prop} (h : WB C A env test ρ σ (fun b σ1 => if b then WSs C A env body ρ σ1 (Thn C A env rest Q E) E else WSs C A env orelse ρ σ1 (Thn C A env rest Q E) E) E) : WSs C A env (.If test body orelse pos :: rest) ρ σ Q E :=
  WSs_cons (WS_if h)
theorem WSs_expr {e : PySem.Expr} {pos : Pos} {rest : List Stmt} {Q : Fl → Loc → AH → Prop} (h : WE C A env e ρ σ (fun v σ1 => WSs C A env rest ρ σ1 Q E) E) (hs : isCompE e = false := by rfl) : WSs C A env (.Expr e pos :: rest) ρ σ Q E :=
  WSs_cons (WS_expr (h.mono fun _ _ w => ⟨w⟩) hs)
/- posts that are not looked at while walking -/
theorem hOf {P R : Fl → Loc → AH → Prop} {fl : Fl} (h : ∀ fl ρ σ, P fl ρ σ → R fl ρ σ) (p : P fl ρ σ) : R fl ρ σ := h fl ρ σ p
theorem WSs_opqF {st : List Stmt} {P : Fl → Loc → AH → Prop} (h : ∀ (R : Fl → Loc → AH → Prop) (E : EX), (∀ fl ρ σ, P fl ρ σ → R fl ρ σ) → WSs C A env st ρ σ R E) : WSs C A env st ρ σ P E := h P E fun _ _ _ h => h
theorem WSs_opq {st : List Stmt} {I : Loc → AH → Prop} {Q : Fl → Loc → AH → Prop} (h : ∀ (R : Fl → Loc → AH → Prop) (E : EX), (∀ fl ρ σ, LoopPost I Q fl ρ σ → R fl ρ σ) → WSs C A env st ρ σ R E) : WSs C A env st ρ σ (LoopPost I Q) E := h _ E fun _ _ _ h => h
theorem WAs_opq {st : List Stmt} {t : PySem.Expr} {v : V} {I : Loc → AH → Prop} {Q : Fl → Loc → AH → Prop} (h : ∀ (R : Fl → Loc → AH → Prop) (E : EX), (∀ fl ρ σ, LoopPost I Q fl ρ σ → R fl ρ σ) → WAs C A env t v ρ σ (fun ρ2 σ2 => WSs C A env st ρ2 σ2 R E) E) : WAs C A env t v ρ σ (fun ρ2 σ2 => WSs C A env st ρ2 σ2 (LoopPost I Q) E) E := h _ E fun _ _ _ h => h
theorem WS.conseqI {st : Stmt} {Q Q' : Fl → Loc → AH → Prop} (h : ∀ R : Fl → Loc → AH → Prop, (∀ fl ρ σ, Q fl ρ σ → R fl ρ σ) → WS C A env st ρ σ R E) (hq : ∀ fl ρ σ, Q fl ρ σ → Q' fl ρ σ) : WS C A env st ρ σ Q' E := h Q' hq
end
end Mine

-- part T15z
namespace Mine
open PySem PySem.W PyProof.Rows
set_option linter.unusedVariables false
noncomputable def topObjs : List (Addr × O) := []
theorem topObjs_ok {P : Params} {h : Heap} (K : (hd.heap_39 P).In h) : ∀ b o, (b, o) ∈ topObjs → GO P h b o := fun _ _ hb => nomatch hb
noncomputable def lawGlo : List (Str × Value) := [(Str.ofString "len", Value.builtin "len"), (Str.ofString "range", Value.type "range"), (Str.ofString "list", Value.type "list"), (Str.ofString "bytes", Value.type "bytes"), (Str.ofString "int", Value.type "int"), (Str.ofString "type", Value.type "type"), (Str.ofString "min", Value.builtin "min"), (Str.ofString "max", Value.builtin "max"), (Str.ofString "abs", Value.builtin "abs"), (Str.ofString "PackError", Value.ref 31), (Str.ofString "shown", Value.ref 41), (Str.ofString "need_number", Value.ref 48), (Str.ofString "shapes", Value.ref 55), (Str.ofString "Trees", Value.ref 105), (Str.ofString "planes_of", Value.ref 114), (Str.ofString "write_plane", Value.ref 121), (Str.ofString "read_plane", Value.ref 128), (Str.ofString "middled", Value.ref 133), (Str.ofString "TOP", Value.int 16777216 385), (Str.ofString "HALF", Value.int 8388608 388), (Str.ofString "QUARTER", Value.int 4194304 391), (Str.ofString "MOST", Value.int 256 393), (Str.ofString "Model", Value.ref 171), (Str.ofString "Writer", Value.ref 213), (Str.ofString "Reader", Value.ref 248), (Str.ofString "plain_bits", Value.ref 257), (Str.ofString "plain_cut_down", Value.ref 264), (Str.ofString "_law_cell", Value.ref 271)]
/-- the facts of this law's top -/
structure Law (C : Cx) : Prop where
  K : (hd.heap_39 C.w.params).In C.G
  top : ∀ x ∈ topObjs, x ∈ C.gob
  glo : ∀ x v, (x, v) ∈ lawGlo → C.mg x = some v ∨ (C.mg x = none ∧ C.mb x = some v)
  exc : OwnCls (Str.ofString "PackError") 31 [.type "ValueError", .type "Exception", .type "BaseException", .type "object"] "ValueError.__new__" C.mg C.G
theorem Law.wg {C : Cx} (c : Law C) (l : List (Str × Value)) : Law (C.wg l) := ⟨c.K, c.top, c.glo, c.exc⟩
theorem Law.c48 {C : Cx} (c : Law C) : Callable C (.ref 48) := callable_K c.K (by kernel_rfl)
theorem Law.c55 {C : Cx} (c : Law C) : Callable C (.ref 55) := callable_K c.K (by kernel_rfl)
theorem Law.c105 {C : Cx} (c : Law C) : Callable C (.ref 105) := callable_K c.K (by kernel_rfl)
theorem Law.c114 {C : Cx} (c : Law C) : Callable C (.ref 114) := callable_K c.K (by kernel_rfl)
theorem Law.c121 {C : Cx} (c : Law C) : Callable C (.ref 121) := callable_K c.K (by kernel_rfl)
theorem Law.c128 {C : Cx} (c : Law C) : Callable C (.ref 128) := callable_K c.K (by kernel_rfl)
theorem Law.c133 {C : Cx} (c : Law C) : Callable C (.ref 133) := callable_K c.K (by kernel_rfl)
theorem Law.c171 {C : Cx} (c : Law C) : Callable C (.ref 171) := callable_K c.K (by kernel_rfl)
theorem Law.c213 {C : Cx} (c : Law C) : Callable C (.ref 213) := callable_K c.K (by kernel_rfl)
theorem Law.c248 {C : Cx} (c : Law C) : Callable C (.ref 248) := callable_K c.K (by kernel_rfl)
theorem Law.c257 {C : Cx} (c : Law C) : Callable C (.ref 257) := callable_K c.K (by kernel_rfl)
theorem Law.c264 {C : Cx} (c : Law C) : Callable C (.ref 264) := callable_K c.K (by kernel_rfl)
theorem Law.c271 {C : Cx} (c : Law C) : Callable C (.ref 271) := callable_K c.K (by kernel_rfl)
theorem cell_spec {C : Cx} {A : Around} {σ : AH} {E : EX} {Q : V → AH → Prop} {a : Addr} {ns : List Int} {k : Int} (c : Law C) (hd : A.depth < recursionLimit) (hg : (a, O.list (ns.map .int)) ∈ C.gob) (hl : ns.length ≤ 63) (hk : 0 ≤ k) (hq : Q (.int (ns.getD k.toNat 0)) σ) : WC C A (.ref 271) [.k (.ref a), .int k] σ Q E := by
  refine WC_def (pn := [Str.ofString "script", Str.ofString "k"]) (ln := []) (gl := [(Str.ofString "len", Value.builtin "len")]) (dv := []) (ds := []) (c.K _ _ rfl) rfl (codeRec_of c.K (by kernel_rfl)) (by first | exact Room.dep0 (by assumption) | assumption | lia | exact Nat.le_of_ble_eq_true rfl) .nil rfl (fun x v h => c.glo x v ((show ∀ p ∈ ([(Str.ofString "len", Value.builtin "len")] : List (Str × Value)), p ∈ lawGlo by decide +kernel) (x, v) h)) ?_ (by decide +kernel) (by decide +kernel) (by decide +kernel) (by decide +kernel) ?_
  · intro s xs hkp hl
    obtain ⟨x0, x1, rfl⟩ := len2 hl
    first | exact BindsTo.of_eq rfl | exact BindsTo.of_defaults rfl (hkp _ _ (c.K _ _ rfl)) rfl rfl rfl
  intro env henv
  replace c := c.wg [(Str.ofString "len", Value.builtin "len")]
  show WSs (C.wg [(Str.ofString "len", Value.builtin "len")]) _ _ _ [(Str.ofString "script", some (.k (.ref a))), (Str.ofString "k", some (.int k))] _ _ _
  refine WSs_cons ?_; refine WS_if ?_; refine WB_Compare1 ?_; refine WE_name mem1 ?_
  refine WE_call mem0 callable_builtin ?_
  refine WL_cons ?_; refine WE_name mem0 ?_; refine WL_nil ?_
  refine WC_len (show ObjAt _ _ (.k (.ref a)) _ from hg) (by simp; lia) ?_
  refine lt_ii ?_; refine WTr_bool ?_
  refine ite_b (fun hb => ?_) fun hb => ?_
  · have hb' := of_decide_eq_true hb
    simp only [List.length_map] at hb'
    have hi : k.toNat < ns.length := by lia
    refine WSs_cons ?_; refine WS_return ?_; refine WE_Sub ?_; refine WE_name mem0 ?_; refine WE_name mem1 ?_
    refine item_list (x := .int (ns.getD k.toNat 0)) (show ObjAt _ _ (.k (.ref a)) _ from hg) hk (by lia) (by simp [List.getD, hi]) ?_
    refine Thn_ret ?_; refine Thn_ret ?_
    exact hq
  · have hb' := of_decide_eq_false hb
    simp only [List.length_map] at hb'
    have e : ns.getD k.toNat 0 = 0 := by rw [List.getD, List.getElem?_eq_none (by lia)]; rfl
    refine WSs_nil ?_; refine Thn_next ?_; refine WSs_cons ?_; refine WS_return ?_; refine WE_int ?_; refine Thn_ret ?_
    rw [e] at hq
    exact hq

end Mine

-- part E15a
set_option linter.unusedVariables false
namespace Mine
open PySem PySem.W PyProof.Rows
theorem clsM {P : Params} : ClsOk (hd.heap_39 P) 171 := ⟨by kernel_rfl, by kernel_rfl, by kernel_rfl, by kernel_rfl, by kernel_rfl, by kernel_rfl⟩
theorem clsW {P : Params} : ClsOk (hd.heap_39 P) 213 := ⟨by kernel_rfl, by kernel_rfl, by kernel_rfl, by kernel_rfl, by kernel_rfl, by kernel_rfl⟩
theorem clsR {P : Params} : ClsOk (hd.heap_39 P) 248 := ⟨by kernel_rfl, by kernel_rfl, by kernel_rfl, by kernel_rfl, by kernel_rfl, by kernel_rfl⟩
theorem gl_up {σ J : AH} {i : Nat} {o : O} (h : σ[i]? = some o) : (σ ++ J)[i]? = some o := by
  rw [List.getElem?_append_left (List.getElem?_eq_some_iff.mp h).1]; exact h
abbrev MdAt := ModAt 171
theorem MdAt.nd' {σ : AH} {m : Nat} {rs : RW} {M : Cts} (h : MdAt σ m rs M) : ((esOf rs).map (·.1)).Nodup := by rw [esOf_keys]; exact h.nd
theorem at_counts {C : Cx} {A : Around} {σ : AH} {E : EX} {Q : V → AH → Prop} {m : Nat} (c : Law C) (h1 : σ[m + 1]? = some (.inst 171 m)) (h2 : σ[m]? = some (.ns (mns m))) (hq : Q (.ref (m + 2)) σ) : WAt C A (.ref (m + 1)) (Str.ofString "counts") σ Q E := at_inst c.K clsM (by kernel_rfl) h1 h2 (by kernel_rfl) rfl hq
theorem pair_spec {C : Cx} {A : Around} {σ : AH} {E : EX} {Q : V → AH → Prop} {m t : Nat} {rs : RW} {M : Cts} {k : MK} {kv : V} (c : Law C) (rm : Room A 1) (h : MdAt σ m rs M) (hz : rs.length ≤ 1000) (hk : KeyV σ k t kv)
    (hq : ∀ σ' rs' t' r, MdAt σ' m rs' M → (k, t', r) ∈ rs' → MExt σ σ' m rs rs' → Q (.ref r) σ') : WC C A (.ref 154) [.ref (m + 1), kv] σ Q E := by
  refine WC_def (pn := [Str.ofString "self", Str.ofString "context"]) (ln := []) (gl := []) (dv := []) (ds := []) (c.K _ _ rfl) rfl (codeRec_of c.K (by kernel_rfl)) (by first | exact Room.dep0 (by assumption) | assumption | lia | exact Nat.le_of_ble_eq_true rfl) .nil rfl (fun x v h => c.glo x v ((show ∀ p ∈ ([] : List (Str × Value)), p ∈ lawGlo by decide +kernel) (x, v) h)) ?_ (by decide +kernel) (by decide +kernel) (by decide +kernel) (by decide +kernel) ?_
  · intro s xs hkp hl
    obtain ⟨x0, x1, rfl⟩ := len2 hl
    first | exact BindsTo.of_eq rfl | exact BindsTo.of_defaults rfl (hkp _ _ (c.K _ _ rfl)) rfl rfl rfl
  intro env henv
  replace c := c.wg []
  show WSs (C.wg []) _ _ _ [(Str.ofString "self", some (.ref (m + 1))), (Str.ofString "context", some (kv))] _ _ _
  refine WSs_opqF fun _ _ _ => ?_
  have rm := rm.deep (env := env)
  refine WSs_if ?_; refine WB_Compare1 ?_; refine WE_ev (.name mem1) ?_; refine WE_attrN mem0 ?_
  refine at_counts c h.inst h.ns ?_
  refine nin_mdict rm.u h.dict h.keyed h.nd' hk ?_
  cases hf : mfnd (esOf rs) k with
  | some v =>
    obtain ⟨t', r, hm, rfl⟩ := esOf_fnd hf
    refine WTr_bool ?_; refine WSs_nil ?_; refine Thn_next ?_; refine WSs_ret ?_; refine WE_SubR (.name mem1) ?_; refine WE_attrN mem0 ?_
    refine at_counts c h.inst h.ns ?_
    refine item_mdict rm.u h.dict h.keyed h.nd' hk hf ?_
    refine hOf (by assumption) ?_
    exact hq σ rs t' r h hm .refl
  | none =>
    have hn : MdAt _ m _ M := h.add hf hk
    have hx : MExt σ _ m rs _ := .add (k := k) (t := t) (es := esOf rs ++ [(k, t, .ref σ.length)])
    have hk2 := hk.ext h hx
    refine WTr_bool ?_; refine WSs_cons ?_; refine WS_setitem ?_; refine WE_List ?_; refine WL_consE .int ?_; refine WL_consE .int ?_; refine WL_ev .nil ?_; refine szAnd ?_; refine WE_attrN mem0 ?_
    refine at_counts c (gl_up h.inst) (gl_up h.ns) ?_
    refine WE_ev (.name mem1) ?_
    refine seti_mdict (t := t) (k := k) rm.u (gl_up h.dict) ?_ h.nd' ?_ hf (by rw [esOf, List.length_map]; lia) ?_
    · intro e he
      have := h.keyed e he
      cases hk : e.1 with
      | s x => trivial
      | t ks => rw [hk] at this; exact gl_up this
    · cases k with
      | s x => exact hk
      | t ks => exact ⟨hk.1, gl_up hk.2⟩
    have e0 : O.list [V.int 1, V.int 1] = rowO (1, 1) := rfl
    rw [e0]
    refine Thn_next ?_; refine WSs_nil ?_; refine Thn_next ?_; refine WSs_ret ?_; refine WE_SubR (.name mem1) ?_; refine WE_attrN mem0 ?_
    refine at_counts c hn.inst hn.ns ?_
    refine item_mdict rm.u hn.dict hn.keyed hn.nd' hk2 (esOf_fnd_snoc hf) ?_
    refine hOf (by assumption) ?_
    exact hq _ _ t σ.length hn (by simp) hx
theorem ROk.ints {r : Int × Int} (h : ROk r) : 1 ≤ r.1 ∧ 1 ≤ r.2 ∧ r.1 + r.2 < 256 := ⟨h.a, h.b, h.s⟩
theorem split_spec {C : Cx} {A : Around} {σ : AH} {E : EX} {Q : V → AH → Prop} {m t : Nat} {rs : RW} {M : Cts} {k : MK} {kv : V} {low high : Int} (c : Law C) (rm : Room A 2) (h : MdAt σ m rs M) (hz : rs.length ≤ 1000) (hk : KeyV σ k t kv) (ok : ROk (M k))
    (hq : ∀ σ' rs', MdAt σ' m rs' M → MExt σ σ' m rs rs' → Q (.int (midOf (M k) low high)) σ') (hb : 0 ≤ high - low ∧ high - low ≤ 16777216) : WC C A (.ref 168) [.ref (m + 1), kv, .int low, .int high] σ Q E := by
  refine WC_def (pn := [Str.ofString "self", Str.ofString "context", Str.ofString "low", Str.ofString "high"]) (ln := [Str.ofString "row", Str.ofString "size"]) (gl := [(Str.ofString "max", Value.builtin "max"), (Str.ofString "min", Value.builtin "min")]) (dv := []) (ds := []) (c.K _ _ rfl) rfl (codeRec_of c.K (by kernel_rfl)) (by first | exact Room.dep0 (by assumption) | assumption | lia | exact Nat.le_of_ble_eq_true rfl) .nil rfl (fun x v h => c.glo x v ((show ∀ p ∈ ([(Str.ofString "max", Value.builtin "max"), (Str.ofString "min", Value.builtin "min")] : List (Str × Value)), p ∈ lawGlo by decide +kernel) (x, v) h)) ?_ (by decide +kernel) (by decide +kernel) (by decide +kernel) (by decide +kernel) ?_
  · intro s xs hkp hl
    obtain ⟨x0, x1, x2, x3, rfl⟩ := len4 hl
    first | exact BindsTo.of_eq rfl | exact BindsTo.of_defaults rfl (hkp _ _ (c.K _ _ rfl)) rfl rfl rfl
  intro env henv
  replace c := c.wg [(Str.ofString "max", Value.builtin "max"), (Str.ofString "min", Value.builtin "min")]
  show WSs (C.wg [(Str.ofString "max", Value.builtin "max"), (Str.ofString "min", Value.builtin "min")]) _ _ _ [(Str.ofString "self", some (.ref (m + 1))), (Str.ofString "context", some (kv)), (Str.ofString "low", some (.int low)), (Str.ofString "high", some (.int high)), (Str.ofString "row", none), (Str.ofString "size", none)] _ _ _
  refine WSs_opqF fun _ _ _ => ?_
  have rm := rm.deep (env := env)
  obtain ⟨o1, o2, o3⟩ := ok.ints
  refine WSs_asgW ?_
  refine WE_meth ?_
  refine WE_ev (.name mem0) ?_
  refine WM_inst (f := 154) c.K clsM (by kernel_rfl) (by kernel_rfl) h.inst h.ns (by kernel_rfl) ⟨callable_K c.K (by kernel_rfl), ?_⟩
  refine WL_consE (.name mem1) ?_; refine WL_ev .nil ?_
  refine pair_spec c rm h hz hk ?_
  intro σ' rs' t' r h' hm hx
  have hr := h'.rows _ hm
  dsimp only at hr
  refine exUp up4 ?_; refine WSs_asgW ?_; refine WE_BinOp ?_; refine WE_BinOp ?_; refine WE_BinR (.name mem2) ?_; refine WE_ev (.name mem3) ?_; refine sub_ii ?_; refine WE_SubR .int ?_; refine WE_ev (.name mem4) ?_
  refine item_list (show ObjAt _ _ (.ref r) _ from hr) (by decide) (by decide) rfl ?_
  refine mul_ii (mul_small (by lia) (by lia)) ?_
  refine WE_BinOp ?_; refine WE_SubR .int ?_; refine WE_ev (.name mem4) ?_
  refine item_list (show ObjAt _ _ (.ref r) _ from hr) (by decide) (by decide) rfl ?_
  refine WE_SubR .int ?_; refine WE_ev (.name mem4) ?_
  refine item_list (show ObjAt _ _ (.ref r) _ from hr) (by decide) (by decide) rfl ?_
  refine add_ii ?_
  refine fdiv_ii (by lia) ?_ (by lia)
  refine exUp up5 ?_; refine WSs_ret ?_; refine WE_BinL (.name mem2) ?_
  refine WE_call (C := C) mem0 callable_builtin ?_
  refine WL_consE .int ?_; refine WL_cons ?_
  refine WE_call (C := C) mem1 callable_builtin ?_
  refine WL_cons ?_; refine WE_BinR .int ?_; refine WE_BinR (.name mem2) ?_; refine WE_ev (.name mem3) ?_; refine sub_ii ?_; refine sub_ii ?_; refine WL_consE (.name mem5) ?_; refine WL_ev .nil ?_
  refine WC_min rm.han ?_
  refine WL_ev .nil ?_
  refine WC_max rm.han ?_
  refine add_ii ?_; refine hOf (by assumption) ?_
  exact hq σ' rs' h' hx
theorem note_spec {C : Cx} {A : Around} {σ : AH} {E : EX} {Q : V → AH → Prop} {m t : Nat} {rs : RW} {M : Cts} {k : MK} {kv : V} {bit : Int} (c : Law C) (rm : Room A 2) (h : MdAt σ m rs M) (hz : rs.length ≤ 1000) (hk : KeyV σ k t kv) (ok : ROk (M k)) (hb : bit = 0 ∨ bit = 1)
    (hq : ∀ σ' rs', MdAt σ' m rs' (noted M k bit) → MExt σ σ' m rs rs' → Q .none σ') : WC C A (.ref 161) [.ref (m + 1), kv, .int bit] σ Q E := by
  refine WC_def (pn := [Str.ofString "self", Str.ofString "context", Str.ofString "bit"]) (ln := [Str.ofString "row"]) (gl := [(Str.ofString "MOST", Value.int 256 393)]) (dv := []) (ds := []) (c.K _ _ rfl) rfl (codeRec_of c.K (by kernel_rfl)) (by first | exact Room.dep0 (by assumption) | assumption | lia | exact Nat.le_of_ble_eq_true rfl) .nil rfl (fun x v h => c.glo x v ((show ∀ p ∈ ([(Str.ofString "MOST", Value.int 256 393)] : List (Str × Value)), p ∈ lawGlo by decide +kernel) (x, v) h)) ?_ (by decide +kernel) (by decide +kernel) (by decide +kernel) (by decide +kernel) ?_
  · intro s xs hkp hl
    obtain ⟨x0, x1, x2, rfl⟩ := len3 hl
    first | exact BindsTo.of_eq rfl | exact BindsTo.of_defaults rfl (hkp _ _ (c.K _ _ rfl)) rfl rfl rfl
  intro env henv
  replace c := c.wg [(Str.ofString "MOST", Value.int 256 393)]
  show WSs (C.wg [(Str.ofString "MOST", Value.int 256 393)]) _ _ _ [(Str.ofString "self", some (.ref (m + 1))), (Str.ofString "context", some (kv)), (Str.ofString "bit", some (.int bit)), (Str.ofString "row", none)] _ _ _
  refine WSs_opqF fun _ _ _ => ?_
  have rm := rm.deep (env := env)
  obtain ⟨o1, o2, o3⟩ := ok.ints
  refine WSs_asgW ?_
  refine WE_meth ?_
  refine WE_ev (.name mem0) ?_
  refine WM_inst (f := 154) c.K clsM (by kernel_rfl) (by kernel_rfl) h.inst h.ns (by kernel_rfl) ⟨callable_K c.K (by kernel_rfl), ?_⟩
  refine WL_consE (.name mem1) ?_; refine WL_ev .nil ?_
  refine pair_spec c rm h hz hk ?_
  intro σ1 rs1 t1 r h1 hm hx
  have hor : (∃ e ∈ rs, e.2.2 = r) ∨ σ.length ≤ r := by
    rcases hx.new _ hm with he | he
    · exact .inl ⟨_, he, rfl⟩
    · exact .inr he
  have hr := h1.rows _ hm
  dsimp only at hr
  have st : ∀ p : Int × Int, MdAt (σ1.set r (rowO p)) m rs1 (fun k' => if k' = k then p else M k') := h1.set_row hm
  have rl := (List.getElem?_eq_some_iff.mp hr).1
  have gs : ∀ p : Int × Int, (σ1.set r (rowO p))[r]? = some (rowO p) := fun p => List.getElem?_set_self rl
  have hx2 : ∀ p : Int × Int, MExt σ (σ1.set r (rowO p)) m rs rs1 := fun p => hx.row hor
  generalize hM : M k = c0 at *
  obtain ⟨a, b⟩ := c0
  dsimp only at o1 o2 o3
  have key : ∀ p q : Int, bump1 (a, b) bit = (p, q) → (1 ≤ p ∧ 1 ≤ q ∧ p + q < 257) := by
    intro p q hpq
    rcases hb with rfl | rfl <;> simp [bump1] at hpq <;> lia
  obtain ⟨p, q, hpq⟩ : ∃ p q, bump1 (a, b) bit = (p, q) := ⟨_, _, rfl⟩
  obtain ⟨p1, p2, p3⟩ := key p q hpq
  have hset : O.list ([V.int a, V.int b].set bit.toNat (V.int ([a, b].getD bit.toNat 0 + 1))) = rowO (p, q) := by
    rw [← hpq]
    rcases hb with rfl | rfl <;> rfl
  refine exUp up3 ?_; refine WSs_cons ?_; refine WS_setitem ?_; refine WE_BinR .int ?_; refine WE_SubR (.name mem2) ?_; refine WE_ev (.name mem3) ?_
  refine item_list (x := .int ([a, b].getD bit.toNat 0)) (show ObjAt _ _ (.ref r) _ from hr) (by lia) (by lia) (by rcases hb with rfl | rfl <;> rfl) ?_
  refine add_ii ?_; refine WE_ev (.name mem3) ?_; refine WE_ev (.name mem2) ?_
  refine seti_list hr (by lia) (by lia) (by simp; lia) ?_
  rw [hset]
  refine Thn_next ?_; refine WSs_if ?_; refine WB_CmpR (.glob mem0) ?_; refine WE_BinOp ?_; refine WE_SubR .int ?_; refine WE_ev (.name mem3) ?_
  refine item_list (show ObjAt _ _ (.ref r) _ from gs _) (by decide) (by decide) rfl ?_
  refine WE_SubR .int ?_; refine WE_ev (.name mem3) ?_
  refine item_list (show ObjAt _ _ (.ref r) _ from gs _) (by decide) (by decide) rfl ?_
  refine add_ii ?_; refine ge_ii ?_; refine WTr_bool ?_
  refine ite_b (fun hc => ?_) fun hc => ?_
  · have hc' := of_decide_eq_true hc
    refine WSs_cons ?_; refine WS_setitem ?_; refine WE_BinR .int ?_; refine WE_BinR .int ?_; refine WE_SubR .int ?_; refine WE_ev (.name mem3) ?_
    refine item_list (show ObjAt _ _ (.ref r) _ from gs _) (by decide) (by decide) rfl ?_
    refine add_ii ?_; refine fdiv_lit (by decide) ?_; refine WE_ev (.name mem3) ?_; refine WE_ev .int ?_
    refine seti_list (gs _) (by decide) (by decide) (by simp) ?_
    rw [List.set_set]
    have e1 : O.list ([V.int p, V.int q].set (Int.toNat 0) (V.int ((p + 1).fdiv 2))) = rowO ((p + 1).fdiv 2, q) := rfl
    rw [e1]
    refine Thn_next ?_; refine WSs_cons ?_; refine WS_setitem ?_; refine WE_BinR .int ?_; refine WE_BinR .int ?_; refine WE_SubR .int ?_; refine WE_ev (.name mem3) ?_
    refine item_list (show ObjAt _ _ (.ref r) _ from gs _) (by decide) (by decide) rfl ?_
    refine add_ii ?_; refine fdiv_lit (by decide) ?_; refine WE_ev (.name mem3) ?_; refine WE_ev .int ?_
    refine seti_list (gs _) (by decide) (by decide) (by simp) ?_
    rw [List.set_set]
    have e2 : O.list ([V.int ((p + 1).fdiv 2), V.int q].set (Int.toNat 1) (V.int ((q + 1).fdiv 2))) = rowO ((p + 1).fdiv 2, (q + 1).fdiv 2) := rfl
    rw [e2]
    refine Thn_next ?_; refine WSs_nil ?_; refine Thn_next ?_; refine WSs_nil ?_; refine hOf (by assumption) ?_
    refine hq _ rs1 ((st _).congr fun k' => ?_) (hx2 _)
    unfold noted bump
    rw [hM, hpq, if_pos hc']
  · have hc' := of_decide_eq_false hc
    refine WSs_nil ?_; refine Thn_next ?_; refine WSs_nil ?_; refine hOf (by assumption) ?_
    refine hq _ rs1 ((st _).congr fun k' => ?_) (hx2 _)
    unfold noted bump
    rw [hM, hpq, if_neg hc']
end Mine

-- part E15h
set_option linter.unusedVariables false
namespace Mine
open PySem PySem.W PyProof.Rows
theorem fdiv2 (n : Nat) : ((n : Int)).fdiv 2 = ((n / 2 : Nat) : Int) := by rw [Int.fdiv_eq_ediv_of_nonneg _ (by decide)]; lia
theorem fdiv2' (n : Nat) : ((n : Int) + 1).fdiv 2 = (((n + 1) / 2 : Nat) : Int) := by rw [Int.fdiv_eq_ediv_of_nonneg _ (by decide)]; lia
theorem set_midE {σ J X : AH} {o o' : O} {n : Nat} (e : n = σ.length) (h : X = σ ++ [o] ++ J) : X.set n o' = σ ++ [o'] ++ J := by rw [h, set_mid e]
noncomputable def pD (p : Nat × Nat) : PyData := .tuple [.int p.1, .int p.2]
noncomputable def bD (W H l : Nat) : PyData := .tuple [pD (bsh W H l 0), pD (bsh W H l 1), pD (bsh W H l 2)]
noncomputable def shD (W H L : Nat) : PyData := .tuple [pD (half W L, half H L), .list ((List.range L).map (bD W H))]
theorem rd_pair {C : Cx} {σ : AH} {v : V} {i j : Nat} (o : ObjAt C σ v (.tuple [.int i, .int j])) : Rd C σ v (pD (i, j)) := .tuple o (.cons .int (.cons .int .nil))
theorem shapes_spec {C : Cx} {A : Around} {σ τ : AH} {E : EX} {Q : V → AH → Prop} {W H L : Nat} (c : Law C) (rm : Room A 1) (hL : L ≤ 10) (sh : Sh τ σ)
    (hq : ∀ v J, Rd C (τ ++ J) v (shD W H L) → Q v (σ ++ J)) : WC C A (.ref 55) [.int W, .int H, .int L] σ Q E := by
  refine WC_def (pn := [Str.ofString "width", Str.ofString "height", Str.ofString "levels"]) (ln := [Str.ofString "bands", Str.ofString "level", Str.ofString "wide", Str.ofString "high"]) (gl := [(Str.ofString "range", Value.type "range")]) (dv := []) (ds := []) (c.K _ _ rfl) rfl (codeRec_of c.K (by kernel_rfl)) (by first | exact Room.dep0 (by assumption) | assumption | lia | exact Nat.le_of_ble_eq_true rfl) .nil rfl (fun x v h => c.glo x v ((show ∀ p ∈ ([(Str.ofString "range", Value.type "range")] : List (Str × Value)), p ∈ lawGlo by decide +kernel) (x, v) h)) ?_ (by decide +kernel) (by decide +kernel) (by decide +kernel) (by decide +kernel) ?_
  · intro s xs hkp hl
    obtain ⟨x0, x1, x2, rfl⟩ := len3 hl
    first | exact BindsTo.of_eq rfl | exact BindsTo.of_defaults rfl (hkp _ _ (c.K _ _ rfl)) rfl rfl rfl
  intro env henv
  replace c := c.wg [(Str.ofString "range", Value.type "range")]
  show WSs (C.wg [(Str.ofString "range", Value.type "range")]) _ _ _ [(Str.ofString "width", some (.int W)), (Str.ofString "height", some (.int H)), (Str.ofString "levels", some (.int L)), (Str.ofString "bands", none), (Str.ofString "level", none), (Str.ofString "wide", none), (Str.ofString "high", none)] _ _ _
  refine WSs_opqF fun _ _ _ => ?_
  have rm := rm.deep (env := env)
  refine WSs_asgW ?_; refine WE_List ?_; refine WL_ev .nil ?_; refine szAnd ?_; refine exUp up3 ?_; refine WSs_cons ?_
  refine WS_for (WItr_rng rm.han mem0 ?_)
  refine WL_consE (.name mem2) ?_; refine WL_ev .nil ?_
  refine exRng (Nat.le_trans hL (Nat.le_of_ble_eq_true rfl)) ?_
  refine ⟨fun i ρ' σ' => Ex5 fun J acc t1 t2 t3 => And4 (σ' = σ ++ [O.list acc] ++ J) (ρ' = ([(Str.ofString "width", some (.int (half W i))), (Str.ofString "height", some (.int (half H i))), (Str.ofString "levels", some (.int L)), (Str.ofString "bands", some (.ref (List.length σ))), (Str.ofString "level", t1), (Str.ofString "wide", t2), (Str.ofString "high", t3)] : Loc)) (acc.length = i) (RdAll C (τ ++ [O.ns []] ++ J) acc ((List.range i).map (bD W H))), ⟨[], [], _, _, _, by simp, rfl, rfl, .nil⟩, ?_, ?_⟩
  · rintro i ρ' σ' hi ⟨J, acc, t1, t2, t3, rfl, rfl, la, ra⟩
    refine ⟨trivial, ?_⟩
    refine WAs_opq fun _ _ _ => ?_; refine WAs_name up4 ?_; refine WSs_asgW ?_; refine WE_BinR .int ?_; refine WE_BinR .int ?_; refine WE_ev (.name mem0) ?_; refine add_ii ?_; refine fdiv_lit (by decide) ?_; refine exUp up5 ?_; refine WSs_asgW ?_; refine WE_BinR .int ?_; refine WE_BinR .int ?_; refine WE_ev (.name mem1) ?_; refine add_ii ?_; refine fdiv_lit (by decide) ?_; refine exUp up6 ?_; refine WSs_expr ?_
    rw [fdiv2', fdiv2']
    refine WE_meth ?_
    refine WE_ev (.name mem3) ?_
    refine WM_append (get_mid rfl) ⟨callable_builtin, ?_⟩
    refine WL_cons ?_; refine WE_Tuple ?_; refine WL_cons ?_; refine WE_Tuple ?_; refine WL_cons ?_; refine WE_BinR .int ?_; refine WE_ev (.name mem0) ?_; refine fdiv_lit (by decide) ?_; refine WL_consE (.name mem6) ?_; refine WL_ev .nil ?_; refine szAnd ?_; refine WL_cons ?_; refine WE_Tuple ?_; refine WL_consE (.name mem5) ?_; refine WL_cons ?_; refine WE_BinR .int ?_; refine WE_ev (.name mem1) ?_; refine fdiv_lit (by decide) ?_; refine WL_ev .nil ?_; refine szAnd ?_; refine WL_cons ?_; refine WE_Tuple ?_; refine WL_cons ?_; refine WE_BinR .int ?_; refine WE_ev (.name mem0) ?_; refine fdiv_lit (by decide) ?_; refine WL_cons ?_; refine WE_BinR .int ?_; refine WE_ev (.name mem1) ?_; refine fdiv_lit (by decide) ?_; refine WL_ev .nil ?_; refine szAnd ?_; refine WL_ev .nil ?_; refine szAnd ?_; refine WL_ev .nil ?_
    rw [fdiv2, fdiv2]
    refine WC_appE (gl_up (gl_up (gl_up (gl_up (get_mid rfl))))) (Nat.le_of_eq la) (Nat.le_trans (Nat.le_of_lt hi) (Nat.le_trans hL (Nat.le_of_ble_eq_true rfl))) ?_
    refine WSs_asgW ?_; refine WE_ev (.name mem5) ?_; refine exUp up0 ?_; refine WSs_asgW ?_; refine WE_ev (.name mem6) ?_; refine exUp up1 ?_; refine WSs_nil ?_; refine hOf (by assumption) ?_; refine LoopPost_next ?_
    have s1 := (sh.hide (.list acc)).app J
    have e0 := s1.len.symm
    generalize hX : σ ++ [O.list acc] ++ J = X at *
    generalize hT : τ ++ [O.ns []] ++ J = T at *
    simp only [List.length_append, List.length_singleton]
    refine ⟨J ++ [O.tuple [.int (half W i / 2 : Nat), .int ((half H i + 1) / 2 : Nat)]] ++ [O.tuple [.int ((half W i + 1) / 2 : Nat), .int (half H i / 2 : Nat)]] ++ [O.tuple [.int (half W i / 2 : Nat), .int (half H i / 2 : Nat)]] ++ [O.tuple [.ref X.length, .ref (X.length + 1), .ref (X.length + 2)]], acc ++ [.ref (X.length + 3)], _, _, _, set_midE (o := .list acc) rfl ?_, rfl, by simp [la], ?_⟩
    · rw [← hX]; simp
    · simp only [← List.append_assoc, hT]
      rw [List.range_succ, List.map_append]
      refine ra.up.up.up.up.snoc (.tuple (.new (by simp [e0])) (.cons (rd_pair ?_) (.cons (rd_pair ?_) (.cons (rd_pair ?_) .nil))))
      · exact .up (.up (.up (.new e0)))
      · exact .up (.up (.new (by simp [e0])))
      · exact .up (.new (by simp [e0]))
  · rintro ρ' σ' ⟨J, acc, t1, t2, t3, rfl, rfl, la, ra⟩
    refine ⟨trivial, ?_⟩
    refine Thn_next ?_; refine WSs_ret ?_; refine WE_Tuple ?_; refine WL_cons ?_; refine WE_Tuple ?_; refine WL_consE (.name mem0) ?_; refine WL_consE (.name mem1) ?_; refine WL_ev .nil ?_; refine szAnd ?_; refine WL_consE (.name mem3) ?_; refine WL_ev .nil ?_; refine szAnd ?_; refine hOf (by assumption) ?_
    have s1 := (sh.app [O.list acc]).app J
    have s2 := s1.app [O.tuple [.int (half W L : Nat), .int (half H L : Nat)]]
    have := hq (.ref (σ ++ [O.list acc] ++ J ++ [O.tuple [.int (half W L : Nat), .int (half H L : Nat)]]).length) ([O.list acc] ++ J ++ [O.tuple [.int (half W L : Nat), .int (half H L : Nat)]] ++ [O.tuple [.ref (σ ++ [O.list acc] ++ J).length, .ref σ.length]])
    simp only [← List.append_assoc] at this
    have sh0 : Sh (τ ++ [O.ns []] ++ J) (τ ++ [O.list acc] ++ J) := (Sh.refl.hide (.list acc)).app J
    refine this (.tuple (.new s2.len.symm) (.cons (rd_pair (.up (.new s1.len.symm))) (.cons (.list (.up (.up (.up (.new sh.len.symm)))) (ra.sh sh0).up.up) .nil)))
theorem half_le (w : Nat) (hw : w ≤ 100) : ∀ i, half w i ≤ 100
  | 0 => hw
  | i + 1 => by have := half_le w hw i; rw [half]; lia
theorem clsT {P : Params} : ClsOk (hd.heap_39 P) 105 := ⟨by kernel_rfl, by kernel_rfl, by kernel_rfl, by kernel_rfl, by kernel_rfl, by kernel_rfl⟩
/- the heap while the trees are made: parents, depths and the dict behind a base -/
noncomputable def TSt (B : AH) (ps ds : List Int) (fs : TD) (J : AH) : AH := B ++ ([O.list (ps.map .int), .list (ds.map .int), .tdict fs] ++ J)
theorem TSt.p {B : AH} {ps ds : List Int} {fs : TD} {J : AH} : (TSt B ps ds fs J)[B.length]? = some (.list (ps.map .int)) := by unfold TSt; rw [List.getElem?_append_right (Nat.le_refl _)]; simp
theorem TSt.d {B : AH} {ps ds : List Int} {fs : TD} {J : AH} : (TSt B ps ds fs J)[B.length + 1]? = some (.list (ds.map .int)) := by unfold TSt; rw [List.getElem?_append_right (by lia)]; simp
theorem TSt.f {B : AH} {ps ds : List Int} {fs : TD} {J : AH} : (TSt B ps ds fs J)[B.length + 2]? = some (.tdict fs) := by unfold TSt; rw [List.getElem?_append_right (by lia)]; simp
theorem TSt.b {B : AH} {ps ds : List Int} {fs : TD} {J : AH} {i : Nat} {o : O} (h : B[i]? = some o) : (TSt B ps ds fs J)[i]? = some o := by
  unfold TSt; rw [List.getElem?_append_left (List.getElem?_eq_some_iff.mp h).1]; exact h
theorem TSt.obj {C : Cx} {B : AH} {ps ds : List Int} {fs : TD} {J : AH} {v : V} {o : O} (h : ObjAt C B v o) : ObjAt C (TSt B ps ds fs J) v o := h.up
theorem TSt.snoc {B : AH} {ps ds : List Int} {fs : TD} {J K : AH} : TSt B ps ds fs J ++ K = TSt B ps ds fs (J ++ K) := by unfold TSt; simp
theorem TSt.setp {B : AH} {ps ds : List Int} {fs : TD} {J : AH} {ps' : List Int} : (TSt B ps ds fs J).set B.length (.list (ps'.map .int)) = TSt B ps' ds fs J := by
  unfold TSt; rw [List.set_append_right _ _ (Nat.le_refl _)]; simp
theorem TSt.setd {B : AH} {ps ds : List Int} {fs : TD} {J : AH} {ds' : List Int} : (TSt B ps ds fs J).set (B.length + 1) (.list (ds'.map .int)) = TSt B ps ds' fs J := by
  unfold TSt; rw [List.set_append_right _ _ (by lia)]; simp
theorem TSt.setf {B : AH} {ps ds : List Int} {fs : TD} {J : AH} {fs' : TD} : (TSt B ps ds fs J).set (B.length + 2) (.tdict fs') = TSt B ps ds fs' J := by
  unfold TSt; rw [List.set_append_right _ _ (by lia)]; simp
theorem TSt.tup {B : AH} {ps ds : List Int} {fs : TD} {J : AH} {j : Nat} {xs : List V} (h : (TSt B ps ds fs J)[j]? = some (.tuple xs)) (ps' ds' : List Int) (fs' : TD) (K : AH) : (TSt B ps' ds' fs' (J ++ K))[j]? = some (.tuple xs) := by
  unfold TSt at h ⊢
  by_cases hj : j < B.length
  · rw [List.getElem?_append_left hj] at h ⊢; exact h
  · rw [List.getElem?_append_right (by lia)] at h ⊢
    generalize j - B.length = i at *
    match i, h with
    | 0, h => cases h
    | 1, h => cases h
    | 2, h => cases h
    | i + 3, h =>
      have h : J[i]? = some (.tuple xs) := h
      show (J ++ K)[i]? = some (.tuple xs)
      rw [List.getElem?_append_left (List.getElem?_eq_some_iff.mp h).1]; exact h
theorem TSt.tup0 {B : AH} {ps ds : List Int} {fs : TD} {J : AH} {j : Nat} {xs : List V} (h : (TSt B ps ds fs J)[j]? = some (.tuple xs)) (ps' ds' : List Int) (fs' : TD) : (TSt B ps' ds' fs' J)[j]? = some (.tuple xs) := by
  have := TSt.tup h ps' ds' fs' []; rwa [List.append_nil] at this
theorem TSt.keyed {B : AH} {ps ds : List Int} {fs : TD} {J : AH} {es : TD} (h : Keyed (TSt B ps ds fs J) es) (ps' ds' : List Int) (fs' : TD) (K : AH) : Keyed (TSt B ps' ds' fs' (J ++ K)) es := fun e he => TSt.tup (h e he) ps' ds' fs' K
theorem TSt.keyed0 {B : AH} {ps ds : List Int} {fs : TD} {J : AH} {es : TD} (h : Keyed (TSt B ps ds fs J) es) (ps' ds' : List Int) (fs' : TD) : Keyed (TSt B ps' ds' fs' J) es := fun e he => TSt.tup0 (h e he) ps' ds' fs'
/-- what hangs above: none, or a key, a shape and whether to halve -/
inductive Ab (C : Cx) (X : AH) (fs : TD) : V → V → (Nat → Nat → Int) → Prop
  | none : Ab C X fs .none .none (fun _ _ => -1)
  | some {a f : Nat} {ka : List Atom} {vs : V} {aw ah base : Nat} {hv : Bool} : X[a]? = some (.tuple (ka.map atomV)) → X[f]? = some (.tuple [vs, .bool hv]) → ObjAt C X vs (.tuple [.int aw, .int ah]) → aw ≤ 100 → ah ≤ 100 → base ≤ 100000 → tget fs ka = some (.int base) →
    Ab C X fs (.ref a) (.ref f) (fun r c => addC base aw ah (if hv = true then 2 else 1) r c)
theorem add_spec {C : Cx} {A : Around} {B J : AH} {E : EX} {Q : V → AH → Prop} {s d0 kt : Nat} {es : List (Str × V)} {ps ds : List Int} {fs : TD} {ks : List Atom} {vsh va vf : V} {w h : Nat} {dp : Int} {g : Nat → Nat → Int} (c : Law C) (rm : Room A 1)
    (b1 : B[s]? = some (.inst 105 d0)) (b2 : B[d0]? = some (.ns es)) (e1 : es.lookup (Str.ofString "parents") = some (.ref B.length)) (e2 : es.lookup (Str.ofString "depths") = some (.ref (B.length + 1)))
    (hk : Keyed (TSt B ps ds fs J) fs) (nd : (fs.map (·.1)).Nodup) (hz : fs.length ≤ 1000) (bt : (TSt B ps ds fs J)[kt]? = some (.tuple (ks.map atomV))) (osh : ObjAt C B vsh (.tuple [.int w, .int h])) (hw : w ≤ 100) (hh : h ≤ 100) (hps : ps.length ≤ 10000) (hds : ds.length ≤ 10000)
    (hab : Ab C (TSt B ps ds fs J) (tput fs ks kt (.int ps.length)) va vf g)
    (hq : Q .none (TSt B (ps ++ (List.range h).flatMap fun r => (List.range w).map (g r)) (ds ++ List.replicate (w * h) dp) (tput fs ks kt (.int ps.length)) J)) :
    WC C A (.ref 74) [.ref s, .ref kt, vsh, .int dp, va, vf, .ref (B.length + 2)] (TSt B ps ds fs J) Q E := by
  refine WC_def (pn := [Str.ofString "self", Str.ofString "key", Str.ofString "shape", Str.ofString "depth", Str.ofString "above", Str.ofString "form", Str.ofString "first"]) (ln := [Str.ofString "width", Str.ofString "height", Str.ofString "row", Str.ofString "column", Str.ofString "above_shape", Str.ofString "halve", Str.ofString "by", Str.ofString "up", Str.ofString "left"]) (gl := [(Str.ofString "len", Value.builtin "len"), (Str.ofString "range", Value.type "range"), (Str.ofString "min", Value.builtin "min")]) (dv := []) (ds := []) (c.K _ _ rfl) rfl (codeRec_of c.K (by kernel_rfl)) (by first | exact Room.dep0 (by assumption) | assumption | lia | exact Nat.le_of_ble_eq_true rfl) .nil rfl (fun x v h => c.glo x v ((show ∀ p ∈ ([(Str.ofString "len", Value.builtin "len"), (Str.ofString "range", Value.type "range"), (Str.ofString "min", Value.builtin "min")] : List (Str × Value)), p ∈ lawGlo by decide +kernel) (x, v) h)) ?_ (by decide +kernel) (by decide +kernel) (by decide +kernel) (by decide +kernel) ?_
  · intro s xs hkp hl
    obtain ⟨x0, x1, x2, x3, x4, x5, x6, rfl⟩ := len7 hl
    first | exact BindsTo.of_eq rfl | exact BindsTo.of_defaults rfl (hkp _ _ (c.K _ _ rfl)) rfl rfl rfl
  intro env henv
  replace c := c.wg [(Str.ofString "len", Value.builtin "len"), (Str.ofString "range", Value.type "range"), (Str.ofString "min", Value.builtin "min")]
  show WSs (C.wg [(Str.ofString "len", Value.builtin "len"), (Str.ofString "range", Value.type "range"), (Str.ofString "min", Value.builtin "min")]) _ _ _ [(Str.ofString "self", some (.ref s)), (Str.ofString "key", some (.ref kt)), (Str.ofString "shape", some (vsh)), (Str.ofString "depth", some (.int dp)), (Str.ofString "above", some (va)), (Str.ofString "form", some (vf)), (Str.ofString "first", some (.ref (B.length + 2))), (Str.ofString "width", none), (Str.ofString "height", none), (Str.ofString "row", none), (Str.ofString "column", none), (Str.ofString "above_shape", none), (Str.ofString "halve", none), (Str.ofString "by", none), (Str.ofString "up", none), (Str.ofString "left", none)] _ _ _
  refine WSs_opqF fun _ _ _ => ?_
  have rm := rm.deep (env := env)
  have atP : ∀ {ps ds : List Int} {fs : TD} {Q : V → AH → Prop} {E : EX}, Q (.ref B.length) (TSt B ps ds fs J) → WAt (C.wg _) (A.deeper env) (.ref s) (Str.ofString "parents") (TSt B ps ds fs J) Q E := fun hq => at_inst c.K clsT (by kernel_rfl) (TSt.b b1) (TSt.b b2) e1 rfl hq
  have atD : ∀ {ps ds : List Int} {fs : TD} {Q : V → AH → Prop} {E : EX}, Q (.ref (B.length + 1)) (TSt B ps ds fs J) → WAt (C.wg _) (A.deeper env) (.ref s) (Str.ofString "depths") (TSt B ps ds fs J) Q E := fun hq => at_inst c.K clsT (by kernel_rfl) (TSt.b b1) (TSt.b b2) e2 rfl hq
  refine WSs_cons ?_; refine WS_setitem ?_
  refine WE_call (C := C) mem0 callable_builtin ?_
  refine WL_cons ?_; refine WE_attrN mem0 ?_
  refine atP ?_
  refine WL_ev .nil ?_
  refine WC_len TSt.p (by simp; lia) ?_
  refine WE_ev (.name mem6) ?_; refine WE_ev (.name mem1) ?_
  rw [List.length_map]
  refine seti_tdict rm.u TSt.f hk nd bt (by simp [sizeLine]; lia) ?_
  rw [TSt.setf]
  refine Thn_next ?_; refine WSs_cons ?_; refine WS_assign_tuple ?_; refine WE_ev (.name mem2) ?_
  refine WAs_tuple rm.han (TSt.obj osh) ?_
  refine WAsL_cons ?_; refine WAs_name up7 ?_; refine WAsL_cons ?_; refine WAs_name up8 ?_; refine WAsL_nil ?_; refine Thn_next ?_; refine WSs_cons ?_
  have hk' := hk.put (v := .int ps.length) bt
  have nd' := tput_nodup (ks := ks) (j := kt) (v := .int ps.length) nd
  have hab' : ∀ ps' ds', Ab C (TSt B ps' ds' (tput fs ks kt (.int ps.length)) J) (tput fs ks kt (.int ps.length)) va vf g := by
    intro ps' ds'
    cases hab with
    | none => exact .none
    | some h1 h2 h3 h4 h5 h6 h7 =>
      refine .some (TSt.tup0 h1 _ _ _) (TSt.tup0 h2 _ _ _) ?_ h4 h5 h6 h7
      revert h3
      generalize ([V.int _, V.int _] : List V) = xs
      intro h3
      rename_i vs _ _ _ _
      cases vs with
      | ref j => exact TSt.tup0 h3 _ _ _
      | k x => cases x <;> exact h3
      | _ => exact h3.elim
  generalize hfs : tput fs ks kt (.int ps.length) = fs' at *
  have hkk : ∀ ps' ds', Keyed (TSt B ps' ds' fs' J) fs' := fun ps' ds' => TSt.keyed0 hk' _ _ _
  clear hab hk bt
  refine WS_for (WItr_rng rm.han mem1 ?_)
  refine WL_consE (.name mem8) ?_; refine WL_ev .nil ?_
  refine exNat ⟨by lia, ?_⟩
  refine ⟨fun i ρ' σ' => Ex7 fun t1 t2 t3 t4 t5 t6 t7 => (σ' = TSt B (ps ++ (List.range i).flatMap fun r => (List.range w).map (g r)) (ds ++ List.replicate (w * i) dp) fs' J) ∧ (ρ' = ([(Str.ofString "self", some (.ref s)), (Str.ofString "key", some (.ref kt)), (Str.ofString "shape", some vsh), (Str.ofString "depth", some (.int dp)), (Str.ofString "above", some va), (Str.ofString "form", some vf), (Str.ofString "first", some (.ref (List.length B + 2))), (Str.ofString "width", some (.int w)), (Str.ofString "height", some (.int h)), (Str.ofString "row", t1), (Str.ofString "column", t2), (Str.ofString "above_shape", t3), (Str.ofString "halve", t4), (Str.ofString "by", t5), (Str.ofString "up", t6), (Str.ofString "left", t7)] : Loc)), ⟨_, _, _, _, _, _, _, by simp, rfl⟩, ?_, ?_⟩
  · rintro i ρ' σ' hi ⟨t1, t2, t3, t4, t5, t6, t7, rfl, rfl⟩
    refine ⟨trivial, ?_⟩
    refine WAs_opq fun _ _ _ => ?_; refine WAs_name up9 ?_; refine WSs_cons ?_
    refine WS_for (WItr_rng rm.han mem1 ?_)
    refine WL_consE (.name mem7) ?_; refine WL_ev .nil ?_
    refine exNat ⟨by lia, ?_⟩
    have lpi : ((List.range i).flatMap fun r => (List.range w).map (g r)).length = w * i := by
      have : ∀ n, ((List.range n).flatMap fun r => (List.range w).map (g r)).length = w * n := by
        intro n
        induction n with
        | zero => rfl
        | succ n ih => rw [List.range_succ, List.flatMap_append, List.length_append, ih]; simp [Nat.mul_succ]
      exact this i
    have hwi : w * i ≤ 100 * 100 := Nat.mul_le_mul (by lia) (by lia)
    generalize hps' : ps ++ (List.range i).flatMap (fun r => (List.range w).map (g r)) = psi at *
    have lps' : psi.length ≤ 20000 := by rw [← hps', List.length_append, lpi]; lia
    have lds' : (ds ++ List.replicate (w * i) dp).length ≤ 20000 := by rw [List.length_append, List.length_replicate]; lia
    generalize hds' : ds ++ List.replicate (w * i) dp = dsi at *
    refine ⟨fun j ρ' σ' => Ex6 fun t2 t3 t4 t5 t6 t7 => (σ' = TSt B (psi ++ (List.range j).map (g i)) (dsi ++ List.replicate j dp) fs' J) ∧ (ρ' = ([(Str.ofString "self", some (.ref s)), (Str.ofString "key", some (.ref kt)), (Str.ofString "shape", some vsh), (Str.ofString "depth", some (.int dp)), (Str.ofString "above", some va), (Str.ofString "form", some vf), (Str.ofString "first", some (.ref (List.length B + 2))), (Str.ofString "width", some (.int w)), (Str.ofString "height", some (.int h)), (Str.ofString "row", (some (.int i))), (Str.ofString "column", t2), (Str.ofString "above_shape", t3), (Str.ofString "halve", t4), (Str.ofString "by", t5), (Str.ofString "up", t6), (Str.ofString "left", t7)] : Loc)), ⟨_, _, _, _, _, _, by simp, rfl⟩, ?_, ?_⟩
    · rintro j ρ' σ' hj ⟨t2, t3, t4, t5, t6, t7, rfl, rfl⟩
      refine ⟨trivial, ?_⟩
      have fin : ∀ x : Int, x = g i j → (psi ++ (List.range j).map (g i)).map V.int ++ [V.int x] = (psi ++ (List.range (j + 1)).map (g i)).map V.int := by
        rintro x rfl; rw [List.range_succ]; simp
      have find : (dsi ++ List.replicate j dp).map V.int ++ [V.int dp] = (dsi ++ List.replicate (j + 1) dp).map V.int := by
        rw [List.replicate_succ']; simp
      have hab := hab' (psi ++ (List.range j).map (g i)) (dsi ++ List.replicate (j + 1) dp)
      have hkk2 := hkk (psi ++ (List.range j).map (g i)) (dsi ++ List.replicate (j + 1) dp)
      refine WAs_opq fun _ _ _ => ?_; refine WAs_name up10 ?_; refine WSs_expr ?_
      refine WE_meth ?_
      refine WE_attrN mem0 ?_
      refine atD ?_
      refine WM_append TSt.d ⟨callable_builtin, ?_⟩
      refine WL_consE (.name mem3) ?_; refine WL_ev .nil ?_
      refine WC_append TSt.d (by simp [sizeLine]; lia) ?_
      rw [find, TSt.setd]
      refine WSs_if ?_; refine WB_CmpR .none ?_; refine WE_ev (.name mem4) ?_
      cases hab with
      | none =>
        refine is_none_n ?_
        refine WTr_bool ?_; refine WSs_expr ?_
        refine WE_meth ?_
        refine WE_attrN mem0 ?_
        refine atP ?_
        refine WM_append TSt.p ⟨callable_builtin, ?_⟩
        refine WL_consE (.neg .int) ?_; refine WL_ev .nil ?_
        refine WC_append TSt.p (by simp [sizeLine]; lia) ?_
        rw [fin (-1) rfl, TSt.setp]
        refine WSs_nil ?_; refine Thn_next ?_; refine WSs_nil ?_; refine hOf (by assumption) ?_; refine LoopPost_next ?_
        exact ⟨_, _, _, _, _, _, rfl, rfl⟩
      | @some a f ka vs aw ah base hv h1 h2 h3 h4 h5 h6 h7 =>
        refine is_none_r ?_
        refine WTr_bool ?_; refine WSs_cons ?_; refine WS_assign_tuple ?_; refine WE_ev (.name mem5) ?_
        refine WAs_tuple rm.han (show ObjAt _ _ (.ref f) _ from h2) ?_
        refine WAsL_cons ?_; refine WAs_name up11 ?_; refine WAsL_cons ?_; refine WAs_name up12 ?_; refine WAsL_nil ?_; refine Thn_next ?_; refine WSs_asgW ?_; refine WE_IfExp ?_
        have hd12 : (if hv = true then (2 : Int) else 1) = ((if hv = true then 2 else 1 : Nat) : Int) := by split <;> rfl
        have hdne : ((if hv = true then 2 else 1 : Nat) : Int) ≠ 0 := by split <;> decide
        have hdsm : ((if hv = true then 2 else 1 : Nat) : Int).natAbs < 1073741824 := by split <;> decide
        refine WB_plain ?_
        refine WE_ev (.name mem12) ?_; refine WTr_bool ?_
        refine ite_WE (x := .int ((if hv = true then 2 else 1 : Nat) : Int)) ?_ ?_ ?_
        · rintro rfl
          refine WE_ev .int ?_
          exact ⟨rfl, rfl⟩
        · rintro rfl
          refine WE_ev .int ?_
          exact ⟨rfl, rfl⟩
        refine exUp up13 ?_; refine WSs_asgW ?_
        refine WE_call (C := C) mem2 callable_builtin ?_
        refine WL_cons ?_; refine WE_BinR (.name mem13) ?_; refine WE_ev (.name mem9) ?_
        refine fdiv_ii hdne ?_ hdsm
        refine WL_cons ?_; refine WE_BinR .int ?_; refine WE_SubR .int ?_; refine WE_ev (.name mem11) ?_
        refine item_tuple h3 (by decide) (by decide) rfl ?_
        refine sub_ii ?_; refine WL_ev .nil ?_
        refine WC_min rm.han ?_
        refine exUp up14 ?_; refine WSs_asgW ?_
        refine WE_call (C := C) mem2 callable_builtin ?_
        refine WL_cons ?_; refine WE_BinR (.name mem13) ?_; refine WE_ev (.name mem10) ?_
        refine fdiv_ii hdne ?_ hdsm
        refine WL_cons ?_; refine WE_BinR .int ?_; refine WE_SubR .int ?_; refine WE_ev (.name mem11) ?_
        refine item_tuple h3 (by decide) (by decide) rfl ?_
        refine sub_ii ?_; refine WL_ev .nil ?_
        refine WC_min rm.han ?_
        refine exUp up15 ?_; refine WSs_expr ?_
        refine WE_meth ?_
        refine WE_attrN mem0 ?_
        refine atP ?_
        refine WM_append TSt.p ⟨callable_builtin, ?_⟩
        refine WL_cons ?_; refine WE_BinR (.name mem15) ?_; refine WE_BinOp ?_; refine WE_SubR (.name mem4) ?_; refine WE_ev (.name mem6) ?_
        refine item_tdict rm.u TSt.f hkk2 nd' h1 h7 ?_
        refine WE_BinL (.name mem14) ?_; refine WE_SubR .int ?_; refine WE_ev (.name mem11) ?_
        refine item_tuple h3 (by decide) (by decide) rfl ?_
        refine mul_ii (mul_small_r (by lia) (by lia)) ?_
        refine add_ii ?_; refine add_ii ?_; refine WL_ev .nil ?_
        refine WC_append TSt.p (by simp [sizeLine]; lia) ?_
        rw [fin ((base : Int) + min ((i : Int).fdiv ((if hv = true then 2 else 1 : Nat) : Int)) ((ah : Int) - 1) * aw + min ((j : Int).fdiv ((if hv = true then 2 else 1 : Nat) : Int)) ((aw : Int) - 1)) rfl, TSt.setp]
        refine WSs_nil ?_; refine Thn_next ?_; refine WSs_nil ?_; refine hOf (by assumption) ?_; refine LoopPost_next ?_
        exact ⟨_, _, _, _, _, _, rfl, rfl⟩
    · rintro ρ' σ' ⟨t2, t3, t4, t5, t6, t7, rfl, rfl⟩
      refine ⟨trivial, ?_⟩
      refine Thn_next ?_; refine WSs_nil ?_; refine hOf (by assumption) ?_; refine LoopPost_next ?_
      refine ⟨_, _, _, _, _, _, _, ?_, rfl⟩
      rw [← hps', ← hds', List.range_succ, List.flatMap_append, List.append_assoc, List.append_assoc, List.replicate_append_replicate, Nat.mul_succ]
      simp
  · rintro ρ' σ' ⟨t1, t2, t3, t4, t5, t6, t7, rfl, rfl⟩
    refine ⟨trivial, ?_⟩
    refine Thn_next ?_; refine WSs_nil ?_; refine hOf (by assumption) ?_
    exact hq
/- the heap while an instance of the class is made -/
noncomputable def TI (σ0 : AH) (es : List (Str × V)) (K : AH) : AH := σ0 ++ ([.ns es, .inst 105 σ0.length] ++ K)
theorem TI.ns {σ0 K : AH} {es : List (Str × V)} : (TI σ0 es K)[σ0.length]? = some (.ns es) := by unfold TI; rw [List.getElem?_append_right (Nat.le_refl _)]; simp
theorem TI.inst {σ0 K : AH} {es : List (Str × V)} : (TI σ0 es K)[σ0.length + 1]? = some (.inst 105 σ0.length) := by unfold TI; rw [List.getElem?_append_right (by lia)]; simp
theorem TI.set {σ0 K : AH} {es es' : List (Str × V)} : (TI σ0 es K).set σ0.length (.ns es') = TI σ0 es' K := by unfold TI; rw [List.set_append_right _ _ (Nat.le_refl _)]; simp
theorem TI.snoc {σ0 K J : AH} {es : List (Str × V)} : TI σ0 es K ++ J = TI σ0 es (K ++ J) := by unfold TI; simp
theorem TI.len {σ0 K : AH} {es : List (Str × V)} : (TI σ0 es K).length = σ0.length + 2 + K.length := by unfold TI; simp; lia
theorem TI.sh {σ0 K : AH} {es es' : List (Str × V)} : Sh (TI σ0 es K) (TI σ0 es' K) := by
  have aux : ∀ (j : Nat) (o : O), (∀ es, o ≠ .ns es) → (TI σ0 es K)[j]? = some o → (TI σ0 es' K)[j]? = some o := by
    intro j o ho h
    unfold TI at h ⊢
    by_cases hj : j < σ0.length
    · rw [List.getElem?_append_left hj] at h ⊢; exact h
    · rw [List.getElem?_append_right (by lia)] at h ⊢
      generalize j - σ0.length = i at *
      match i, h with
      | 0, h => cases h; exact absurd rfl (ho _)
      | i + 1, h => exact h
  exact ⟨by rw [TI.len, TI.len], fun j xs h => aux j _ (fun _ e => by cases e) h, fun j xs h => aux j _ (fun _ e => by cases e) h⟩
theorem set_inst2 {C : Cx} {A : Around} {σ σ' : AH} {E : EX} {K : Frag} {Cl : Addr} {i d : Nat} {es : List (Str × V)} {name : Str} {x : V} {Q : AH → Prop} (X : K.In C.G) (ok : ClsOk K Cl) (ht : takerIn K Cl name = some none) (b : σ[i]? = some (.inst Cl d)) (bd : σ[d]? = some (.ns es))
    (hz : es.length ≤ sizeLine) (he : σ.set d (.ns (putNs name x es)) = σ') (h : Q σ') : WSt C A (.ref i) name x σ Q E := set_inst X ok ht b bd hz (he ▸ h)
noncomputable def tes3 (nB : Nat) : List (Str × V) := [(Str.ofString "shape", .ref nB), (Str.ofString "parents", .ref (nB + 1)), (Str.ofString "depths", .ref (nB + 1 + 1))]
theorem putNs_new {k : Str} {v : V} : ∀ {es : List (Str × V)}, (es.map (·.1)).contains k = false → putNs k v es = es ++ [(k, v)]
  | [], _ => rfl
  | (y, w) :: es, h => by
    simp only [List.map_cons, List.contains_cons, Bool.or_eq_false_iff] at h
    have hne : y ≠ k := by rintro rfl; simp at h
    rw [putNs]
    simp only [hne, if_false, beq_iff_eq, List.cons_append]
    rw [putNs_new h.2]
theorem set_TI {C : Cx} {A : Around} {E : EX} {Q : AH → Prop} {σ0 K : AH} {es : List (Str × V)} {name : Str} {x : V} (c : Law C) (ht : takerIn (hd.heap_39 C.w.params) 105 name = some none) (hz : es.length ≤ 10) (hn : (es.map (·.1)).contains name = false) (h : Q (TI σ0 (es ++ [(name, x)]) K)) : WSt C A (.ref (σ0.length + 1)) name x (TI σ0 es K) Q E :=
  set_inst2 c.K clsT ht TI.inst TI.ns (by simp [sizeLine]; lia) (by rw [TI.set, putNs_new hn]) h
noncomputable def tes (js jp jd jc : Nat) : List (Str × V) := [(Str.ofString "shape", .ref js), (Str.ofString "parents", .ref jp), (Str.ofString "depths", .ref jd), (Str.ofString "children", .ref jc)]
noncomputable def kidD (P : List Int) (n : Nat) : PyData := .list ((List.range n).map fun k => rowI ((kids P k).map fun (c : Nat) => (c : Int)))
/-- the trees of a plane's levels -/
structure TreeAt (C : Cx) (σ : AH) (t : Nat) (W H L : Nat) : Prop where
  ex : ∃ d js jp jd jc, σ[t]? = some (.inst 105 d) ∧ σ[d]? = some (.ns (tes js jp jd jc)) ∧ Rd C σ (.ref js) (shD W H L) ∧ σ[jp]? = some (.list ((psM W H L (3 * L)).map .int)) ∧ σ[jd]? = some (.list ((dsM W H L (3 * L)).map .int)) ∧ Rd C σ (.ref jc) (kidD (psM W H L (3 * L)) (W * H))
theorem TreeAt.up {C : Cx} {σ J : AH} {t W H L : Nat} (h : TreeAt C σ t W H L) : TreeAt C (σ ++ J) t W H L :=
  let ⟨d, js, jp, jd, jc, h1, h2, h3, h4, h5, h6⟩ := h.ex
  ⟨d, js, jp, jd, jc, gl_up h1, gl_up h2, h3.up, gl_up h4, gl_up h5, h6.up⟩
theorem TreeAt.wg {C : Cx} {l : List (Str × Value)} {σ : AH} {t W H L : Nat} (h : TreeAt C σ t W H L) : TreeAt (C.wg l) σ t W H L :=
  let ⟨d, js, jp, jd, jc, h1, h2, h3, h4, h5, h6⟩ := h.ex
  ⟨d, js, jp, jd, jc, h1, h2, h3.wg, h4, h5, h6.wg⟩
theorem band_at {C : Cx} {σ : AH} {W H L : Nat} {v : V} (h : Rd C σ v (.list ((List.range L).map (bD W H)))) : ∃ xs, ObjAt C σ v (.list xs) ∧ xs.length = L ∧ ∀ l, l < L → ∃ bl ys, xs[l]? = some bl ∧ ObjAt C σ bl (.tuple ys) ∧ ys.length ≤ 100000 ∧ ∀ k, k < 3 → ∃ x, ys[k]? = some x ∧ ObjAt C σ x (.tuple [.int (bsh W H l k).1, .int (bsh W H l k).2]) := by
  obtain ⟨xs, o, r⟩ := h.list_inv
  refine ⟨xs, o, by have := r.len; simpa using this, fun l hl => ?_⟩
  obtain ⟨bl, h1, h2⟩ := r.get (i := l) (d := bD W H l) (by simp [hl])
  obtain ⟨ys, o2, r2⟩ := Rd.tuple_inv (show Rd C σ bl (.tuple _) from h2)
  obtain ⟨x, y, z, rfl, hx, hy, hz⟩ := r2.inv3
  refine ⟨bl, _, h1, o2, Nat.le_of_ble_eq_true rfl, fun k hk => ?_⟩
  have k3 : k = 0 ∨ k = 1 ∨ k = 2 := by lia
  rcases k3 with rfl | rfl | rfl
  · exact ⟨x, rfl, hx.pair⟩
  · exact ⟨y, rfl, hy.pair⟩
  · exact ⟨z, rfl, hz.pair⟩
theorem flat_const (x : Int) (w : Nat) : ∀ h, ((List.range h).flatMap fun _ => (List.range w).map fun _ => x) = List.replicate (w * h) x
  | 0 => rfl
  | h + 1 => by
    rw [List.range_succ, List.flatMap_append, flat_const x w h, Nat.mul_succ, ← List.replicate_append_replicate]
    congr 1
    simp [List.map_const']
noncomputable def abK (L kd : Nat) : Option Nat → List Atom
  | none => [.s (Str.ofString "low"), .i 0]
  | some t => [.i kd, .i (L - 1 - t : Nat)]
noncomputable def abS (W H L kd : Nat) : Option Nat → Nat × Nat
  | none => (half W L, half H L)
  | some t => bsh W H (L - 1 - t) kd
noncomputable def abB (W H L kd : Nat) : Option Nat → Nat
  | none => 0
  | some t => offM W H L (3 * t + kd)
theorem blkM_eq (W H L m : Nat) : blkM W H L m = (List.range (bsh W H (L - 1 - m / 3) (m % 3)).2).flatMap fun r => (List.range (bsh W H (L - 1 - m / 3) (m % 3)).1).map fun c => addC (abB W H L (m % 3) (abv W H L (m % 3) (m / 3))) (abS W H L (m % 3) (abv W H L (m % 3) (m / 3))).1 (abS W H L (m % 3) (abv W H L (m % 3) (m / 3))).2 (if (abv W H L (m % 3) (m / 3)).isSome = true then 2 else 1) r c := by
  unfold blkM
  cases abv W H L (m % 3) (m / 3) with
  | none => rfl
  | some t => rfl
theorem abv_lt {W H L kd : Nat} : ∀ {i t : Nat}, abv W H L kd i = some t → t < i
  | 0, t, h => by cases h
  | i + 1, t, h => by
    unfold abv at h
    split at h
    · cases h; lia
    · have := abv_lt h; lia
theorem bsh_le {W H l k : Nat} (hW : W ≤ 100) (hH : H ≤ 100) : (bsh W H l k).1 ≤ 100 ∧ (bsh W H l k).2 ≤ 100 := by
  have a := half_le W hW l
  have b := half_le H hH l
  have c := half_le W hW (l + 1)
  have d := half_le H hH (l + 1)
  match k with
  | 0 => exact ⟨by show half W l / 2 ≤ 100; lia, d⟩
  | 1 => exact ⟨c, by show half H l / 2 ≤ 100; lia⟩
  | k + 2 => exact ⟨by show half W l / 2 ≤ 100; lia, by show half H l / 2 ≤ 100; lia⟩
/-- what the dict of first places holds -/
structure Fst (W H L m : Nat) (fs : TD) : Prop where
  nd : (fs.map (·.1)).Nodup
  len : fs.length ≤ m + 1
  low : tget fs [.s (Str.ofString "low"), .i 0] = some (.int 0)
  at' : ∀ m', m' < m → tget fs [.i (m' % 3 : Nat), .i (L - 1 - m' / 3 : Nat)] = some (.int (offM W H L m'))
theorem Fst.put {W H L m : Nat} {fs : TD} (f : Fst W H L m fs) (hm : m < 3 * L) (j : Nat) : Fst W H L (m + 1) (tput fs [.i (m % 3 : Nat), .i (L - 1 - m / 3 : Nat)] j (.int (offM W H L m))) := by
  refine ⟨tput_nodup f.nd, by have := tput_len (es := fs) (ks := [.i (m % 3 : Nat), .i (L - 1 - m / 3 : Nat)]) (j := j) (v := .int (offM W H L m)); have := f.len; lia, ?_, fun m' hm' => ?_⟩
  · rw [tget_tput, if_neg (by simp)]; exact f.low
  · rw [tget_tput]
    by_cases e : m' = m
    · subst e; rw [if_pos rfl]
    · rw [if_neg]
      · exact f.at' m' (by lia)
      · intro h
        simp only [List.cons.injEq, Atom.i.injEq, and_true] at h
        lia
theorem Fst.get {W H L m : Nat} {fs : TD} (f : Fst W H L m fs) {kd i : Nat} (hkd : kd < 3) (hi : i * 3 ≤ m) : tget fs (abK L kd (abv W H L kd i)) = some (.int (abB W H L kd (abv W H L kd i))) := by
  cases h : abv W H L kd i with
  | none => exact f.low
  | some t =>
    have ht := abv_lt h
    have := f.at' (3 * t + kd) (by lia)
    rw [show (3 * t + kd) % 3 = kd by lia, show (3 * t + kd) / 3 = t by lia] at this
    exact this
theorem offM_le {W H L : Nat} (hW : W ≤ 7) (hH : H ≤ 7) (hL : L ≤ 3) (h1 : 1 ≤ W) (h2 : 1 ≤ H) : ∀ m, m ≤ 3 * L → offM W H L m ≤ 49 := by
  have t := (tree_ok h1 hW h2 hH hL).tot
  have hwh : W * H ≤ 7 * 7 := Nat.mul_le_mul hW hH
  have mono : ∀ k m, offM W H L m ≤ offM W H L (m + k) := by
    intro k
    induction k with
    | zero => intro m; exact Nat.le_refl _
    | succ k ih => intro m; have := ih m; rw [show m + (k + 1) = (m + k) + 1 from rfl, offM]; lia
  intro m hm
  have := mono (3 * L - m) m
  rw [show m + (3 * L - m) = 3 * L by lia] at this
  lia
theorem kidsUp {P : List Int} {n : Nat} {u : Nat} : ((List.range (n + 1)).filter fun c => P.getD c 0 == (u : Int)) = if P.getD n 0 = (u : Int) then ((List.range n).filter fun c => P.getD c 0 == (u : Int)) ++ [n] else ((List.range n).filter fun c => P.getD c 0 == (u : Int)) := by
  rw [List.range_succ, List.filter_append]
  by_cases h : P.getD n 0 = (u : Int)
  · rw [if_pos h]; congr 1; rw [List.filter_cons, if_pos (by rw [h]; exact beq_self_eq_true _)]; rfl
  · rw [if_neg h, List.filter_cons, if_neg (by simpa using h)]; simp
theorem set_map_range {n u : Nat} {f g : Nat → O} {o : O} (hu : u < n) (h : ∀ j, j < n → g j = if j = u then o else f j) : ((List.range n).map f).set u o = (List.range n).map g := by
  apply List.ext_getElem
  · simp
  · intro j h1 h2
    simp at h1
    rw [List.getElem_set]
    simp only [List.getElem_map, List.getElem_range, h j h1]
    by_cases e : j = u
    · subst e; simp
    · rw [if_neg (Ne.symm e), if_neg e]
theorem init_tree {C : Cx} {A : Around} {σ0 : AH} {E : EX} {Q : V → AH → Prop} {W H L : Nat} (c : Law C) (rm : Room A 2) (hW1 : 1 ≤ W) (hW : W ≤ 7) (hH1 : 1 ≤ H) (hH : H ≤ 7) (hL : L ≤ 3)
    (hq : ∀ J, TreeAt C (σ0 ++ J) (σ0.length + 1) W H L → Q .none (σ0 ++ J)) : WCc C A (.ref 67) [.ref (σ0.length + 1), .int W, .int H, .int L] (σ0 ++ [O.ns []] ++ [.inst 105 σ0.length]) Q E := by
  refine WCc_def (pn := [Str.ofString "self", Str.ofString "width", Str.ofString "height", Str.ofString "levels"]) (ln := [Str.ofString "low", Str.ofString "bands", Str.ofString "first", Str.ofString "level", Str.ofString "kind", Str.ofString "above", Str.ofString "above_shape", Str.ofString "halve", Str.ofString "coarser", Str.ofString "k"]) (gl := [(Str.ofString "shapes", Value.ref 55), (Str.ofString "range", Value.type "range"), (Str.ofString "min", Value.builtin "min"), (Str.ofString "len", Value.builtin "len")]) (dv := []) (ds := []) (c.K _ _ rfl) rfl (codeRec_of c.K (by kernel_rfl)) (by first | exact Room.dep0 (by assumption) | assumption | lia | exact Nat.le_of_ble_eq_true rfl) .nil rfl (fun x v h => c.glo x v ((show ∀ p ∈ ([(Str.ofString "shapes", Value.ref 55), (Str.ofString "range", Value.type "range"), (Str.ofString "min", Value.builtin "min"), (Str.ofString "len", Value.builtin "len")] : List (Str × Value)), p ∈ lawGlo by decide +kernel) (x, v) h)) ?_ (by decide +kernel) (by decide +kernel) (by decide +kernel) (by decide +kernel) ?_
  · intro s xs hkp hl
    obtain ⟨x0, x1, x2, x3, rfl⟩ := len4 hl
    first | exact BindsTo.of_eq rfl | exact BindsTo.of_defaults rfl (hkp _ _ (c.K _ _ rfl)) rfl rfl rfl
  intro env henv
  replace c := c.wg [(Str.ofString "shapes", Value.ref 55), (Str.ofString "range", Value.type "range"), (Str.ofString "min", Value.builtin "min"), (Str.ofString "len", Value.builtin "len")]
  show WSs (C.wg [(Str.ofString "shapes", Value.ref 55), (Str.ofString "range", Value.type "range"), (Str.ofString "min", Value.builtin "min"), (Str.ofString "len", Value.builtin "len")]) _ _ _ [(Str.ofString "self", some (.ref (σ0.length + 1))), (Str.ofString "width", some (.int W)), (Str.ofString "height", some (.int H)), (Str.ofString "levels", some (.int L)), (Str.ofString "low", none), (Str.ofString "bands", none), (Str.ofString "first", none), (Str.ofString "level", none), (Str.ofString "kind", none), (Str.ofString "above", none), (Str.ofString "above_shape", none), (Str.ofString "halve", none), (Str.ofString "coarser", none), (Str.ofString "k", none)] _ _ _
  refine WSs_opqF fun _ _ _ => ?_
  have rm := rm.deep (env := env)
  have e0 : σ0 ++ [O.ns []] ++ [O.inst 105 σ0.length] = TI σ0 [] [] := by unfold TI; simp
  rw [e0]
  refine WSs_cons ?_; refine WS_assign_tuple ?_
  refine WE_call (C := C) mem0 c.c55 ?_
  refine WL_consE (.name mem1) ?_; refine WL_consE (.name mem2) ?_; refine WL_consE (.name mem3) ?_; refine WL_ev .nil ?_
  refine shapes_spec c rm.le (by lia) Sh.refl fun v J1 rv => ?_
  obtain ⟨zs, o, r⟩ := rv.tuple_inv
  obtain ⟨vl, vb, rfl, rl, rb⟩ := r.inv2
  refine WAs_tuple rm.han o ?_
  refine WAsL_cons ?_; refine WAs_name up4 ?_; refine WAsL_cons ?_; refine WAs_name up5 ?_; refine WAsL_nil ?_; refine Thn_next ?_; refine WSs_cons ?_; refine WS_setattr ?_; refine WE_Tuple ?_; refine WL_consE (.name mem4) ?_; refine WL_consE (.name mem5) ?_; refine WL_ev .nil ?_; refine szAnd ?_; refine WE_ev (.name mem0) ?_
  simp only [TI.snoc, List.nil_append]
  refine set_TI c (by kernel_rfl) (by simp) rfl ?_
  rw [TI.len]
  simp only [List.nil_append]
  generalize hnB : σ0.length + 2 + List.length J1 = nB
  refine Thn_next ?_; refine WSs_cons ?_; refine WS_setattr ?_; refine WE_List ?_; refine WL_ev .nil ?_; refine szAnd ?_; refine WE_ev (.name mem0) ?_
  rw [TI.snoc]
  refine set_TI c (by kernel_rfl) (by simp) (by show [Str.ofString "shape"].contains (Str.ofString "parents") = false; decide +kernel) ?_
  rw [TI.len, List.length_append, List.length_singleton, ← Nat.add_assoc, hnB]
  refine Thn_next ?_; refine WSs_cons ?_; refine WS_setattr ?_; refine WE_List ?_; refine WL_ev .nil ?_; refine szAnd ?_; refine WE_ev (.name mem0) ?_
  rw [TI.snoc]
  refine set_TI c (by kernel_rfl) (by simp) (by show [Str.ofString "shape", Str.ofString "parents"].contains (Str.ofString "depths") = false; decide +kernel) ?_
  rw [TI.len, List.length_append, List.length_append, List.length_singleton, List.length_singleton, ← Nat.add_assoc, ← Nat.add_assoc, hnB]
  simp only [List.cons_append, List.nil_append]
  refine Thn_next ?_; refine WSs_asgW ?_
  refine WE_dict0t ?_
  have hsh : Sh (TI σ0 [] [] ++ J1) (TI σ0 (tes3 nB) J1) := by rw [TI.snoc, List.nil_append]; exact TI.sh
  have plow : ObjAt C (TI σ0 (tes3 nB) (J1 ++ [O.tuple [vl, vb]])) vl (.tuple [.int (half W L : Nat), .int (half H L : Nat)]) := by rw [← TI.snoc]; exact ((rl.sh hsh).pair).up
  have rbands : Rd C (TI σ0 (tes3 nB) (J1 ++ [O.tuple [vl, vb]])) vb (.list ((List.range L).map (bD W H))) := by rw [← TI.snoc]; exact (rb.sh hsh).up.gw
  have rshape : Rd C (TI σ0 (tes3 nB) (J1 ++ [O.tuple [vl, vb]])) (.ref nB) (shD W H L) := by
    rw [← TI.snoc]
    exact .tuple (.new (by rw [TI.len, hnB])) (.cons (rl.sh hsh).up.gw (.cons (rb.sh hsh).up.gw .nil))
  have b1 : (TI σ0 (tes3 nB) (J1 ++ [O.tuple [vl, vb]]))[σ0.length + 1]? = some (.inst 105 σ0.length) := TI.inst
  have b2 : (TI σ0 (tes3 nB) (J1 ++ [O.tuple [vl, vb]]))[σ0.length]? = some (.ns (tes3 nB)) := TI.ns
  have lB : (TI σ0 (tes3 nB) (J1 ++ [O.tuple [vl, vb]])).length = nB + 1 := by rw [TI.len, List.length_append, List.length_singleton, ← Nat.add_assoc, hnB]
  have lF : (TI σ0 (tes3 nB) (J1 ++ [O.tuple [vl, vb]] ++ [O.list []] ++ [O.list []])).length = nB + 1 + 2 := by rw [TI.len]; simp only [List.length_append, List.length_singleton]; lia
  have eB : TI σ0 (tes3 nB) (J1 ++ [O.tuple [vl, vb]] ++ [O.list []] ++ [O.list []]) ++ [O.tdict []] = TSt (TI σ0 (tes3 nB) (J1 ++ [O.tuple [vl, vb]])) [] [] [] [] := by rw [TI.snoc]; unfold TI TSt; simp
  have eX : [(Str.ofString "shape", V.ref nB), (Str.ofString "parents", V.ref (nB + 1)), (Str.ofString "depths", V.ref (nB + 1 + 1))] = tes3 nB := rfl
  rw [eX, eB, lF, ← lB]
  have e1 : (tes3 nB).lookup (Str.ofString "parents") = some (.ref (TI σ0 (tes3 nB) (J1 ++ [O.tuple [vl, vb]])).length) := by rw [lB]; kernel_rfl
  have e2 : (tes3 nB).lookup (Str.ofString "depths") = some (.ref ((TI σ0 (tes3 nB) (J1 ++ [O.tuple [vl, vb]])).length + 1)) := by rw [lB]; kernel_rfl
  have eadd : (tes3 nB).lookup (Str.ofString "_add") = none := by kernel_rfl
  clear eX eB lF rl rb r o rv hsh
  generalize hB : TI σ0 (tes3 nB) (J1 ++ [O.tuple [vl, vb]]) = B at *
  obtain ⟨xs, ox, lx, hx⟩ := band_at rbands
  have zx : xs.length ≤ 100000 := by rw [lx]; exact Nat.le_trans hL (Nat.le_of_ble_eq_true rfl)
  have hoff := offM_le hW hH hL hW1 hH1
  have hhl : half W L ≤ 100 ∧ half H L ≤ 100 := ⟨half_le W (by lia) L, half_le H (by lia) L⟩
  refine exUp up6 ?_; refine WSs_expr ?_
  refine WE_meth ?_
  refine WE_ev (.name mem0) ?_
  refine WM_inst (f := 74) c.K clsT (by kernel_rfl) (by kernel_rfl) (TSt.b b1) (TSt.b b2) eadd ⟨callable_K c.K (by kernel_rfl), ?_⟩
  refine WL_cons ?_; refine WE_Tuple ?_; refine WL_consE .str ?_; refine WL_consE .int ?_; refine WL_ev .nil ?_; refine szAnd ?_; refine WL_consE (.name mem4) ?_; refine WL_consE (.name mem3) ?_; refine WL_consE .none ?_; refine WL_consE .none ?_; refine WL_consE (.name mem6) ?_; refine WL_ev .nil ?_
  rw [TSt.snoc]
  refine add_spec (ks := [.s (Str.ofString "low"), .i 0]) (ps := []) (ds := []) (fs := []) c rm.le b1 b2 e1 e2 (fun e he => nomatch he) List.nodup_nil (by simp) ?_ plow hhl.1 hhl.2 (by simp) (by simp) .none ?_
  · rw [← TSt.snoc]; exact ObjAt.new (C := C) rfl
  have ep : ([] : List Int) ++ (List.range (half H L)).flatMap (fun r => (List.range (half W L)).map ((fun (_ _ : Nat) => (-1 : Int)) r)) = psM W H L 0 := by rw [List.nil_append]; exact (flat_const (-1) _ _).trans (by simp [psM])
  have ed : ([] : List Int) ++ List.replicate (half W L * half H L) (L : Int) = dsM W H L 0 := by simp [dsM]
  have bt0 : (TSt B [] [] [] ([] ++ [O.tuple [.str (Str.ofString "low"), .int 0]]))[(TSt B [] [] [] []).length]? = some (.tuple (([.s (Str.ofString "low"), .i 0] : List Atom).map atomV)) := by rw [← TSt.snoc]; exact ObjAt.new (C := C) rfl
  have ky0 := TSt.keyed0 (Keyed.put (v := .int (([] : List Int).length : Nat)) (es := []) (fun e he => nomatch he) bt0) (psM W H L 0) (dsM W H L 0) (tput [] [.s (Str.ofString "low"), .i 0] (TSt B [] [] [] []).length (.int (([] : List Int).length : Nat)))
  have f0 : Fst W H L 0 (tput [] [.s (Str.ofString "low"), .i 0] (TSt B [] [] [] []).length (.int (([] : List Int).length : Nat))) := by
    refine ⟨tput_nodup List.nodup_nil, by simp [tput, tget], ?_, fun m' h => absurd h (by lia)⟩
    rw [tget_tput, if_pos rfl]; rfl
  rw [ep, ed]
  clear ep ed bt0
  generalize tput [] [.s (Str.ofString "low"), .i 0] (TSt B [] [] [] []).length (.int (([] : List Int).length : Nat)) = fs at *
  generalize ([] : AH) ++ [O.tuple [.str (Str.ofString "low"), .int 0]] = J at *
  refine WSs_cons ?_
  refine WS_for (WItr_down rm.han mem1 ?_)
  refine WL_cons ?_; refine WE_BinR .int ?_; refine WE_ev (.name mem3) ?_; refine sub_ii ?_; refine WL_consE (.neg .int) ?_; refine WL_consE (.neg .int) ?_; refine WL_ev .nil ?_
  refine exDown ⟨by lia, by decide, ?_⟩
  rw [show ((L : Int) - 1 - -1).toNat = L by lia]
  refine ⟨fun i ρ' σ' => Ex9 fun J fs t1 t2 t3 t4 t5 t6 t7 => And4 (σ' = TSt B (psM W H L (3 * i)) (dsM W H L (3 * i)) fs J) (ρ' = ([(Str.ofString "self", some (.ref (List.length σ0 + 1))), (Str.ofString "width", some (.int W)), (Str.ofString "height", some (.int H)), (Str.ofString "levels", some (.int L)), (Str.ofString "low", some vl), (Str.ofString "bands", some vb), (Str.ofString "first", some (.ref (List.length B + 2))), (Str.ofString "level", t1), (Str.ofString "kind", t2), (Str.ofString "above", t3), (Str.ofString "above_shape", t4), (Str.ofString "halve", t5), (Str.ofString "coarser", t6), (Str.ofString "k", t7)] : Loc)) (Keyed (TSt B (psM W H L (3 * i)) (dsM W H L (3 * i)) fs J) fs) (Fst W H L (3 * i) fs), ⟨J, fs, _, _, _, _, _, _, _, rfl, rfl, ky0, f0⟩, ?_, ?_⟩
  · clear ky0 f0
    rintro i ρ' σ' hi ⟨J, fs, t1, t2, t3, t4, t5, t6, t7, rfl, rfl, ky, f⟩
    refine ⟨trivial, ?_⟩
    show WAs _ _ _ _ (V.int ((L : Int) - 1 - (i : Nat))) _ _ _ _
    rw [show ((L : Int) - 1 - (i : Nat)) = ((L - 1 - i : Nat) : Int) by lia]
    refine WAs_opq fun _ _ _ => ?_; refine WAs_name up7 ?_; refine WSs_cons ?_
    refine WS_for (WItr_rng rm.han mem1 ?_)
    refine WL_consE .int ?_; refine WL_ev .nil ?_
    refine ⟨3, rfl, by decide, ?_⟩
    refine ⟨fun k ρ' σ' => Ex8 fun J fs t2 t3 t4 t5 t6 t7 => And4 (σ' = TSt B (psM W H L (3 * i + k)) (dsM W H L (3 * i + k)) fs J) (ρ' = ([(Str.ofString "self", some (.ref (List.length σ0 + 1))), (Str.ofString "width", some (.int W)), (Str.ofString "height", some (.int H)), (Str.ofString "levels", some (.int L)), (Str.ofString "low", some vl), (Str.ofString "bands", some vb), (Str.ofString "first", some (.ref (List.length B + 2))), (Str.ofString "level", (some (.int (L - 1 - i : Nat)))), (Str.ofString "kind", t2), (Str.ofString "above", t3), (Str.ofString "above_shape", t4), (Str.ofString "halve", t5), (Str.ofString "coarser", t6), (Str.ofString "k", t7)] : Loc)) (Keyed (TSt B (psM W H L (3 * i + k)) (dsM W H L (3 * i + k)) fs J) fs) (Fst W H L (3 * i + k) fs), ⟨J, fs, _, _, _, _, _, _, rfl, rfl, ky, f⟩, ?_, ?_⟩
    · clear ky f
      rintro k ρ' σ' hk ⟨J, fs, t2, t3, t4, t5, t6, t7, rfl, rfl, ky, f⟩
      refine ⟨trivial, ?_⟩
      have em : (3 * i + k) / 3 = i ∧ (3 * i + k) % 3 = k := by lia
      have hm : 3 * i + k < 3 * L := by lia
      have lps := psM_len W H L (3 * i + k)
      have lds := dsM_len W H L (3 * i + k)
      have hof := hoff (3 * i + k) (by lia)
      have esz := szM W H L (3 * i + k)
      have bq := blkM_eq W H L (3 * i + k)
      have psS := psM_succ W H L (3 * i + k)
      have dsS := dsM_succ W H L (3 * i + k)
      have fput := fun j => f.put hm j
      have fget := fun j => (fput j).get (kd := k) (i := i) hk (by lia)
      unfold szM at dsS
      rw [em.1, em.2] at bq dsS fput fget
      rw [bq] at psS
      rw [← lps] at fput fget
      have bnd : abB W H L k (abv W H L k i) ≤ 49 := by
        cases ha : abv W H L k i with
        | none => exact Nat.zero_le _
        | some t => exact hoff _ (by have := abv_lt ha; lia)
      clear bq esz
      generalize psM W H L (3 * i + k) = ps at *
      generalize dsM W H L (3 * i + k) = ds at *
      refine WAs_opq fun _ _ _ => ?_; refine WAs_name up8 ?_; refine WSs_asgW ?_; refine WE_Tuple ?_; refine WL_consE .str ?_; refine WL_consE .int ?_; refine WL_ev .nil ?_; refine szAnd ?_; refine exUp up9 ?_; refine WSs_asgW ?_; refine WE_ev (.name mem4) ?_; refine exUp up10 ?_; refine WSs_asgW ?_; refine WE_ev .bool ?_; refine exUp up11 ?_; refine WSs_cons ?_
      rw [TSt.snoc]
      refine WS_for (WItr_down rm.han mem1 ?_)
      refine WL_cons ?_; refine WE_BinR .int ?_; refine WE_ev (.name mem3) ?_; refine sub_ii ?_; refine WL_consE (.name mem7) ?_; refine WL_consE (.neg .int) ?_; refine WL_ev .nil ?_
      refine exDown ⟨by lia, by lia, ?_⟩
      rw [show ((L : Int) - 1 - ((L - 1 - i : Nat) : Int)).toNat = i by lia]
      refine ⟨fun t ρ' σ' => ∃ J' ax vas t6, σ' = TSt B ps ds fs J' ∧ ρ' = ([(Str.ofString "self", some (.ref (List.length σ0 + 1))), (Str.ofString "width", some (.int W)), (Str.ofString "height", some (.int H)), (Str.ofString "levels", some (.int L)), (Str.ofString "low", some vl), (Str.ofString "bands", some vb), (Str.ofString "first", some (.ref (List.length B + 2))), (Str.ofString "level", (some (.int (L - 1 - i : Nat)))), (Str.ofString "kind", (some (.int k))), (Str.ofString "above", (some (.ref ax))), (Str.ofString "above_shape", (some vas)), (Str.ofString "halve", (some (.bool (abv W H L k t).isSome))), (Str.ofString "coarser", t6), (Str.ofString "k", t7)] : Loc) ∧ Keyed (TSt B ps ds fs J') fs ∧ (TSt B ps ds fs J')[ax]? = some (.tuple ((abK L k (abv W H L k t)).map atomV)) ∧ ObjAt C B vas (.tuple [.int (abS W H L k (abv W H L k t)).1, .int (abS W H L k (abv W H L k t)).2]),
        ⟨J ++ [O.tuple [.str (Str.ofString "low"), .int 0]], _, vl, _, rfl, rfl, TSt.keyed ky _ _ _ _, by rw [← TSt.snoc]; exact ObjAt.new (C := C) rfl, plow⟩, ?_, ?_⟩
      · clear ky
        rintro t ρ' σ' ht ⟨J', ax, vas, t6, rfl, rfl, ky, hax, hvas⟩
        refine ⟨trivial, ?_⟩
        show WAs _ _ _ _ (V.int ((L : Int) - 1 - (t : Nat))) _ _ _ _
        rw [show ((L : Int) - 1 - (t : Nat)) = ((L - 1 - t : Nat) : Int) by lia]
        obtain ⟨bl, ys, hbl, obl, zy, hys⟩ := hx (L - 1 - t) (by lia)
        obtain ⟨x, hx1, ox1⟩ := hys k hk
        refine WAs_opq fun _ _ _ => ?_; refine WAs_name up12 ?_; refine WSs_if ?_; refine WB_CmpR .int ?_
        refine WE_call (C := C) mem2 callable_builtin ?_
        refine WL_cons ?_; refine WE_SubR (.name mem8) ?_; refine WE_SubR (.name mem12) ?_; refine WE_ev (.name mem5) ?_
        refine item_listN (TSt.obj ox) zx hbl ?_
        refine item_tupN (TSt.obj obl) zy hx1 ?_
        refine WL_ev .nil ?_
        refine WC_minT rm.han (TSt.obj ox1) ?_
        refine gt_ii ?_; refine WTr_bool ?_
        refine ite_b (fun hb => ?_) fun hb => ?_
        · have hb' := of_decide_eq_true hb
          have ea : abv W H L k (t + 1) = some t := by rw [abv, if_pos (by lia)]
          refine WSs_asgW ?_; refine WE_Tuple ?_; refine WL_consE (.name mem8) ?_; refine WL_consE (.name mem12) ?_; refine WL_ev .nil ?_; refine szAnd ?_; refine exUp up9 ?_; refine WSs_asgW ?_; refine WE_SubR (.name mem8) ?_; refine WE_SubR (.name mem12) ?_; refine WE_ev (.name mem5) ?_
          rw [TSt.snoc]
          refine item_listN (TSt.obj ox) zx hbl ?_
          refine item_tupN (TSt.obj obl) zy hx1 ?_
          refine exUp up10 ?_; refine WSs_asgW ?_; refine WE_ev .bool ?_; refine exUp up11 ?_; refine WSs_nil ?_; refine Thn_next ?_; refine WSs_nil ?_; refine hOf (by assumption) ?_; refine LoopPost_next ?_
          refine ⟨J' ++ [O.tuple [.int k, .int (L - 1 - t : Nat)]], _, x, _, rfl, by rw [ea]; rfl, TSt.keyed ky _ _ _ _, ?_, ?_⟩
          · rw [ea, ← TSt.snoc]; exact ObjAt.new (C := C) rfl
          · rw [ea]; exact ox1
        · have hb' := of_decide_eq_false hb
          have ea : abv W H L k (t + 1) = abv W H L k t := by rw [abv, if_neg (by lia)]
          refine WSs_nil ?_; refine Thn_next ?_; refine WSs_nil ?_; refine hOf (by assumption) ?_; refine LoopPost_next ?_
          refine ⟨J', ax, vas, _, rfl, by rw [ea], ky, by rw [ea]; exact hax, by rw [ea]; exact hvas⟩
      · clear ky
        rintro ρ' σ' ⟨J', ax, vas, t6, rfl, rfl, ky, hax, hvas⟩
        refine ⟨trivial, ?_⟩
        obtain ⟨bl, ys, hbl, obl, zy, hys⟩ := hx (L - 1 - i) (by lia)
        obtain ⟨x, hx1, ox1⟩ := hys k hk
        have sl := bsh_le (W := W) (H := H) (l := L - 1 - i) (k := k) (by lia) (by lia)
        have sa : (abS W H L k (abv W H L k i)).1 ≤ 100 ∧ (abS W H L k (abv W H L k i)).2 ≤ 100 := by
          cases abv W H L k i with
          | none => exact hhl
          | some t => exact bsh_le (by lia) (by lia)
        refine Thn_next ?_; refine WSs_expr ?_
        refine WE_meth ?_
        refine WE_ev (.name mem0) ?_
        refine WM_inst (f := 74) c.K clsT (by kernel_rfl) (by kernel_rfl) (TSt.b b1) (TSt.b b2) eadd ⟨callable_K c.K (by kernel_rfl), ?_⟩
        refine WL_cons ?_; refine WE_Tuple ?_; refine WL_consE (.name mem8) ?_; refine WL_consE (.name mem7) ?_; refine WL_ev .nil ?_; refine szAnd ?_; refine WL_cons ?_; refine WE_SubR (.name mem8) ?_; refine WE_SubR (.name mem7) ?_; refine WE_ev (.name mem5) ?_
        rw [TSt.snoc]
        refine item_listN (TSt.obj ox) zx hbl ?_
        refine item_tupN (TSt.obj obl) zy hx1 ?_
        refine WL_consE (.name mem7) ?_; refine WL_consE (.name mem9) ?_; refine WL_cons ?_; refine WE_Tuple ?_; refine WL_consE (.name mem10) ?_; refine WL_consE (.name mem11) ?_; refine WL_ev .nil ?_; refine szAnd ?_; refine WL_consE (.name mem6) ?_; refine WL_ev .nil ?_
        rw [TSt.snoc]
        have e3 : TSt B ps ds fs (J' ++ [O.tuple [.int k, .int (L - 1 - i : Nat)]] ++ [O.tuple [vas, .bool (abv W H L k i).isSome]]) = TSt B ps ds fs (J' ++ [O.tuple [.int k, .int (L - 1 - i : Nat)]]) ++ [O.tuple [vas, .bool (abv W H L k i).isSome]] := TSt.snoc.symm
        have hkt : (TSt B ps ds fs (J' ++ [O.tuple [.int k, .int (L - 1 - i : Nat)]] ++ [O.tuple [vas, .bool (abv W H L k i).isSome]]))[(TSt B ps ds fs J').length]? = some (.tuple (([.i k, .i (L - 1 - i : Nat)] : List Atom).map atomV)) := by
          rw [e3, ← TSt.snoc]; exact gl_up (ObjAt.new (C := C) rfl)
        have hft : (TSt B ps ds fs (J' ++ [O.tuple [.int k, .int (L - 1 - i : Nat)]] ++ [O.tuple [vas, .bool (abv W H L k i).isSome]]))[(TSt B ps ds fs (J' ++ [O.tuple [.int k, .int (L - 1 - i : Nat)]])).length]? = some (.tuple [vas, .bool (abv W H L k i).isSome]) := by
          rw [e3]; exact ObjAt.new (C := C) rfl
        have kyy := TSt.keyed (TSt.keyed ky ps ds fs [O.tuple [.int k, .int (L - 1 - i : Nat)]]) ps ds fs [O.tuple [vas, .bool (abv W H L k i).isSome]]
        have haxx := TSt.tup (TSt.tup hax ps ds fs [O.tuple [.int k, .int (L - 1 - i : Nat)]]) ps ds fs [O.tuple [vas, .bool (abv W H L k i).isSome]]
        generalize J' ++ [O.tuple [.int k, .int (L - 1 - i : Nat)]] ++ [O.tuple [vas, .bool (abv W H L k i).isSome]] = J2 at *
        generalize (TSt B ps ds fs J').length = kt at *
        generalize (TSt B ps ds fs (J' ++ [O.tuple [.int k, .int (L - 1 - i : Nat)]])).length = ft at *
        refine add_spec (ks := [.i k, .i (L - 1 - i : Nat)]) c rm.le b1 b2 e1 e2 kyy f.nd (by have := f.len; lia) hkt ox1 sl.1 sl.2 (by lia) (by lia) (.some haxx hft (TSt.obj hvas) sa.1 sa.2 (by lia) (fget kt)) ?_
        refine WSs_nil ?_; refine hOf (by assumption) ?_; refine LoopPost_next ?_
        refine ⟨J2, _, _, _, _, _, _, _, ?_, rfl, TSt.keyed0 (Keyed.put kyy hkt) _ _ _, fput kt⟩
        rw [show 3 * i + (k + 1) = 3 * i + k + 1 from rfl, psS, dsS]
    · clear ky f
      rintro ρ' σ' ⟨J, fs, t2, t3, t4, t5, t6, t7, rfl, rfl, ky, f⟩
      refine ⟨trivial, ?_⟩
      refine Thn_next ?_; refine WSs_nil ?_; refine hOf (by assumption) ?_; refine LoopPost_next ?_
      refine ⟨J, fs, _, _, _, _, _, _, _, ?_, rfl, ?_, ?_⟩
      · rw [show 3 * (i + 1) = 3 * i + 3 by lia]
      · rw [show 3 * (i + 1) = 3 * i + 3 by lia]; exact ky
      · rw [show 3 * (i + 1) = 3 * i + 3 by lia]; exact f
  clear ky0 f0
  rintro ρ' σ' ⟨J, fs, t1, t2, t3, t4, t5, t6, t7, rfl, rfl, ky, f⟩
  refine ⟨trivial, ?_⟩
  clear ky f hx ox zx lx xs
  have tok := tree_ok hW1 hW hH1 hH hL
  have lP : (psM W H L (3 * L)).length = W * H := by rw [psM_len, tok.tot]
  have hn : W * H ≤ 49 := Nat.mul_le_mul hW hH
  have htu := tok.up
  have zn : W * H ≤ 100000 := Nat.le_trans hn (Nat.le_of_ble_eq_true rfl)
  have hkf : ∀ u, (kids (psM W H L (3 * L)) u) = (List.range (W * H)).filter fun c => (psM W H L (3 * L)).getD c 0 == (u : Int) := fun u => by rw [kids, lP]
  have rsh : Rd C (TSt B (psM W H L (3 * L)) (dsM W H L (3 * L)) fs J) (.ref nB) (shD W H L) := rshape.up
  have hS : ∃ K0, TSt B (psM W H L (3 * L)) (dsM W H L (3 * L)) fs J = TI σ0 (tes3 nB) K0 := ⟨J1 ++ [O.tuple [vl, vb]] ++ ([O.list ((psM W H L (3 * L)).map .int), O.list ((dsM W H L (3 * L)).map .int), .tdict fs] ++ J), by unfold TSt; rw [← hB, TI.snoc]⟩
  have sp : (TSt B (psM W H L (3 * L)) (dsM W H L (3 * L)) fs J)[nB + 1]? = some (.list ((psM W H L (3 * L)).map .int)) := by rw [← lB]; exact TSt.p
  have sd : (TSt B (psM W H L (3 * L)) (dsM W H L (3 * L)) fs J)[nB + 1 + 1]? = some (.list ((dsM W H L (3 * L)).map .int)) := by rw [← lB]; exact TSt.d
  obtain ⟨K0, hK0⟩ := hS
  rw [hK0] at rsh sp sd ⊢
  clear rshape plow rbands b1 b2 e1 e2 eadd hB hK0 hoff hhl
  generalize hfirst : (V.ref (B.length + 2)) = vfirst
  clear hfirst lB B
  generalize hP : psM W H L (3 * L) = P at *
  generalize hD : dsM W H L (3 * L) = D at *
  generalize hnn : W * H = n at *
  have atP : ∀ {es : List (Str × V)} {K : AH} {Q : V → AH → Prop} {E : EX}, es.lookup (Str.ofString "parents") = some (.ref (nB + 1)) → Q (.ref (nB + 1)) (TI σ0 es K) → WAt (C.wg _) (A.deeper env) (.ref (σ0.length + 1)) (Str.ofString "parents") (TI σ0 es K) Q E := fun he hq => at_inst c.K clsT (by kernel_rfl) TI.inst TI.ns he rfl hq
  refine Thn_next ?_; refine WSs_cons ?_
  refine WS_setattrC ?_
  refine WE_ListComp2 (C := C) (l2 := []) (capt := []) henv (by show compOk _ _ _ [] [] = true; decide +kernel) (by simp) (by simp) (by simp) ?_
  refine WItr_of ?_
  refine WE_attrN mem0 ?_
  refine atP (by kernel_rfl) ?_
  refine ⟨_, _, _, Itb_list rm.han (show ObjAt _ _ (.ref (nB + 1)) _ from sp), ?_⟩
  rw [List.length_map, lP]
  refine ⟨sz_le (Nat.le_refl _) zn, fun i acc σ' => σ' = TI σ0 (tes3 nB) K0 ++ (List.range i).map (fun _ => O.list []) ∧ acc = (List.range i).map (fun k => V.ref ((TI σ0 (tes3 nB) K0).length + k)), ⟨by simp, rfl⟩, ?_, ?_⟩
  · rintro i acc σ' pv hi hp ⟨rfl, rfl⟩
    refine ⟨ObjAt.up (show ObjAt C _ (.ref (nB + 1)) _ from sp), fun cenv hc => WIf_nil ?_⟩
    rw [if_pos rfl]
    refine WE_List ?_; refine WL_ev .nil ?_; refine szAnd ?_
    refine ⟨?_, ?_⟩
    · rw [List.range_succ, List.map_append, List.append_assoc]; rfl
    · rw [List.range_succ, List.map_append, List.length_append]; simp
  rintro acc σ' ⟨rfl, rfl⟩
  refine ⟨ObjAt.up (show ObjAt C _ (.ref (nB + 1)) _ from sp), ?_⟩
  show WE _ _ _ _ _ _ _ _
  refine WE_ev (.name mem0) ?_
  have lX : ∀ es, (TI σ0 es K0).length = (TI σ0 (tes3 nB) K0).length := fun es => by rw [TI.len, TI.len]
  generalize hjc : (TI σ0 (tes3 nB) K0 ++ (List.range n).map (fun _ => O.list [])).length = jc
  rw [TI.snoc, TI.snoc]
  refine set_TI c (by kernel_rfl) (by simp [tes3]) (by show [Str.ofString "shape", Str.ofString "parents", Str.ofString "depths"].contains (Str.ofString "children") = false; decide +kernel) ?_
  have eX : tes3 nB ++ [(Str.ofString "children", V.ref jc)] = tes nB (nB + 1) (nB + 1 + 1) jc := rfl
  rw [eX, ← TI.snoc, ← TI.snoc]
  have rsh2 : Rd C (TI σ0 (tes nB (nB + 1) (nB + 1 + 1) jc) K0) (.ref nB) (shD W H L) := rsh.sh TI.sh
  have sp2 : (TI σ0 (tes nB (nB + 1) (nB + 1 + 1) jc) K0)[nB + 1]? = some (.list (P.map .int)) := TI.sh.l _ _ sp
  have sd2 : (TI σ0 (tes nB (nB + 1) (nB + 1 + 1) jc) K0)[nB + 1 + 1]? = some (.list (D.map .int)) := TI.sh.l _ _ sd
  have i2 : (TI σ0 (tes nB (nB + 1) (nB + 1 + 1) jc) K0)[σ0.length + 1]? = some (.inst 105 σ0.length) := TI.inst
  have n2 : (TI σ0 (tes nB (nB + 1) (nB + 1 + 1) jc) K0)[σ0.length]? = some (.ns (tes nB (nB + 1) (nB + 1 + 1) jc)) := TI.ns
  have hjc2 : jc = (TI σ0 (tes nB (nB + 1) (nB + 1 + 1) jc) K0).length + n := by
    have h := hjc
    rw [List.length_append, List.length_map, List.length_range] at h
    rw [lX]; exact h.symm
  rw [← lX (tes nB (nB + 1) (nB + 1 + 1) jc)]
  have hfin : ∃ J, ∀ K, TI σ0 (tes nB (nB + 1) (nB + 1 + 1) jc) K0 ++ K = σ0 ++ (J ++ K) := ⟨[O.ns (tes nB (nB + 1) (nB + 1 + 1) jc), .inst 105 σ0.length] ++ K0, fun K => by unfold TI; simp⟩
  clear rsh sp sd hjc eX atP lX
  generalize TI σ0 (tes nB (nB + 1) (nB + 1 + 1) jc) K0 = X at *
  have atP : ∀ {Q : V → AH → Prop} {E : EX} {K : AH}, Q (.ref (nB + 1)) (X ++ K) → WAt (C.wg _) (A.deeper env) (.ref (σ0.length + 1)) (Str.ofString "parents") (X ++ K) Q E := fun hq => at_inst c.K clsT (by kernel_rfl) (gl_up i2) (gl_up n2) (by kernel_rfl) rfl hq
  have atC : ∀ {Q : V → AH → Prop} {E : EX} {K : AH}, Q (.ref jc) (X ++ K) → WAt (C.wg _) (A.deeper env) (.ref (σ0.length + 1)) (Str.ofString "children") (X ++ K) Q E := fun hq => at_inst c.K clsT (by kernel_rfl) (gl_up i2) (gl_up n2) (by kernel_rfl) rfl hq
  have zP : P.length ≤ 100000 := by rw [lP]; exact zn
  have getP : ∀ {K : AH}, ObjAt C (X ++ K) (.ref (nB + 1)) (.list (P.map .int)) := fun {K} => gl_up sp2
  let kU : Nat → Nat → List Int := fun k u => ((List.range k).filter fun c => P.getD c 0 == (u : Int)).map fun (c : Nat) => (c : Int)
  let M : Nat → AH := fun k => (List.range n).map fun u => O.list ((kU k u).map .int)
  have lM : ∀ k, (M k).length = n := fun k => by simp [M]
  have getC : ∀ k, ObjAt C (X ++ (M k ++ [O.list ((List.range n).map fun k => V.ref (X.length + k))])) (.ref jc) (.list ((List.range n).map fun k => V.ref (X.length + k))) := fun k => by
    rw [← List.append_assoc]; exact ObjAt.new (by rw [List.length_append, lM, hjc2])
  have getM : ∀ k u, u < n → (X ++ (M k ++ [O.list ((List.range n).map fun k => V.ref (X.length + k))]))[X.length + u]? = some (.list ((kU k u).map .int)) := fun k u hu => by
    rw [List.getElem?_append_right (by lia), Nat.add_sub_cancel_left, List.getElem?_append_left (by rw [lM]; exact hu)]
    simp [M, hu]
  have e0M : X ++ (List.range n).map (fun _ => O.list []) ++ [O.list ((List.range n).map fun k => V.ref (X.length + k))] = X ++ (M 0 ++ [O.list ((List.range n).map fun k => V.ref (X.length + k))]) := by rw [List.append_assoc]; rfl
  rw [e0M]
  refine Thn_next ?_; refine WSs_cons ?_
  refine WS_for (WItr_rng rm.han mem1 ?_)
  refine WL_cons ?_
  refine WE_call (C := C) mem3 callable_builtin ?_
  refine WL_cons ?_; refine WE_attrN mem0 ?_
  refine atP ?_
  refine WL_ev .nil ?_
  refine WC_lenI getP lP zn ?_
  refine WL_ev .nil ?_
  refine exRng zn ?_
  refine ⟨fun k ρ' σ' => Ex1 fun t7 => (σ' = X ++ (M k ++ [O.list ((List.range n).map fun k => V.ref (X.length + k))])) ∧ (ρ' = ([(Str.ofString "self", some (.ref (List.length σ0 + 1))), (Str.ofString "width", some (.int W)), (Str.ofString "height", some (.int H)), (Str.ofString "levels", some (.int L)), (Str.ofString "low", some vl), (Str.ofString "bands", some vb), (Str.ofString "first", some vfirst), (Str.ofString "level", t1), (Str.ofString "kind", t2), (Str.ofString "above", t3), (Str.ofString "above_shape", t4), (Str.ofString "halve", t5), (Str.ofString "coarser", t6), (Str.ofString "k", t7)] : Loc)), ⟨_, rfl, rfl⟩, ?_, ?_⟩
  · rintro k ρ' σ' hk ⟨t7, rfl, rfl⟩
    refine ⟨trivial, ?_⟩
    have up := htu k hk
    have kP : k < P.length := by rw [lP]; exact hk
    refine WAs_opq fun _ _ _ => ?_; refine WAs_name up13 ?_; refine WSs_if ?_; refine WB_CmpR .int ?_; refine WE_SubR (.name mem13) ?_; refine WE_attrN mem0 ?_
    refine atP ?_
    refine item_intN getP zP kP ?_
    refine ge_ii ?_; refine WTr_bool ?_
    refine ite_b (fun hb => ?_) fun hb => ?_
    · have hb' := of_decide_eq_true hb
      obtain ⟨u, hu⟩ : ∃ u : Nat, P.getD k 0 = (u : Int) := Int.eq_ofNat_of_zero_le hb'
      rw [hu] at up
      have hun : u < n := Nat.lt_trans (Int.ofNat_lt.mp up) hk
      refine WSs_expr ?_
      refine WE_meth ?_
      refine WE_Sub ?_; refine WE_attrN mem0 ?_
      refine atC ?_
      refine WE_SubR (.name mem13) ?_; refine WE_attrN mem0 ?_
      refine atP ?_
      refine item_intN getP zP kP ?_
      refine item_listE (x := .ref (X.length + u)) (getC k) hu (by simpa using zn) (by simp [hun]) ?_
      refine WM_append (getM k u hun) ⟨callable_builtin, ?_⟩
      refine WL_consE (.name mem13) ?_; refine WL_ev .nil ?_
      refine WC_appE (n := k) (getM k u hun) (by
        have := List.length_filter_le (fun c => P.getD c 0 == (u : Int)) (List.range k)
        rw [List.length_range] at this
        rw [List.length_map, List.length_map]
        exact this) (Nat.le_trans (Nat.le_of_lt hk) zn) ?_
      refine WSs_nil ?_; refine Thn_next ?_; refine WSs_nil ?_; refine hOf (by assumption) ?_; refine LoopPost_next ?_
      refine ⟨_, ?_, rfl⟩
      rw [List.set_append_right _ _ (by lia), Nat.add_sub_cancel_left, List.set_append_left _ _ (by rw [lM]; exact hun)]
      congr 2
      refine set_map_range hun fun j hj => ?_
      show O.list ((((List.range (k + 1)).filter fun c => P.getD c 0 == (j : Int)).map fun (c : Nat) => (c : Int)).map .int) = _
      rw [kidsUp, hu]
      by_cases e : j = u
      · subst e; rw [if_pos rfl, if_pos rfl]; simp [kU]
      · rw [if_neg (fun h => e (Int.ofNat_inj.mp h).symm), if_neg e]
    · have hb' := of_decide_eq_false hb
      refine WSs_nil ?_; refine Thn_next ?_; refine WSs_nil ?_; refine hOf (by assumption) ?_; refine LoopPost_next ?_
      refine ⟨_, ?_, rfl⟩
      congr 2
      refine List.map_congr_left fun j hj => ?_
      show _ = O.list ((((List.range (k + 1)).filter fun c => P.getD c 0 == (j : Int)).map fun (c : Nat) => (c : Int)).map .int)
      rw [kidsUp, if_neg (fun h => hb' (by rw [h]; exact Int.natCast_nonneg j))]
  · rintro ρ' σ' ⟨t7, rfl, rfl⟩
    refine ⟨trivial, ?_⟩
    refine Thn_next ?_; refine WSs_nil ?_; refine hOf (by assumption) ?_
    obtain ⟨JJ, hJJ⟩ := hfin
    show Q .none _
    rw [hJJ]
    refine hq _ ?_
    rw [← hJJ]
    refine ⟨σ0.length, nB, nB + 1, nB + 1 + 1, jc, gl_up i2, gl_up n2, rsh2.up, by rw [hP]; exact gl_up sp2, by rw [hD]; exact gl_up sd2, ?_⟩
    rw [hP, hnn]
    refine .list (getC n) (RdAll.range fun u hu => ?_)
    rw [hkf u]
    exact Rd.lst (getM n u hu)
theorem at_parents {C : Cx} {A : Around} {σ : AH} {E : EX} {Q : V → AH → Prop} {t d js jp jd jc : Nat} (c : Law C) (h1 : σ[t]? = some (.inst 105 d)) (h2 : σ[d]? = some (.ns (tes js jp jd jc))) (hq : Q (.ref jp) σ) : WAt C A (.ref t) (Str.ofString "parents") σ Q E := at_inst c.K clsT (by kernel_rfl) h1 h2 (by kernel_rfl) rfl hq
theorem at_depths {C : Cx} {A : Around} {σ : AH} {E : EX} {Q : V → AH → Prop} {t d js jp jd jc : Nat} (c : Law C) (h1 : σ[t]? = some (.inst 105 d)) (h2 : σ[d]? = some (.ns (tes js jp jd jc))) (hq : Q (.ref jd) σ) : WAt C A (.ref t) (Str.ofString "depths") σ Q E := at_inst c.K clsT (by kernel_rfl) h1 h2 (by kernel_rfl) rfl hq
theorem at_children {C : Cx} {A : Around} {σ : AH} {E : EX} {Q : V → AH → Prop} {t d js jp jd jc : Nat} (c : Law C) (h1 : σ[t]? = some (.inst 105 d)) (h2 : σ[d]? = some (.ns (tes js jp jd jc))) (hq : Q (.ref jc) σ) : WAt C A (.ref t) (Str.ofString "children") σ Q E := at_inst c.K clsT (by kernel_rfl) h1 h2 (by kernel_rfl) rfl hq
theorem WM_tree {C : Cx} {A : Around} {σ : AH} {E : EX} {K : Value → List V → AH → Prop} {t W H L : Nat} {f : Addr} {name : Str} (c : Law C) (T : TreeAt C σ t W H L) (h1 : findIn (hd.heap_39 C.w.params) (.ref 105) name = some (some (.ref f))) (h2 : typeIn (hd.heap_39 C.w.params) (.ref f) = some (.type "function"))
    (h3 : ([Str.ofString "shape", Str.ofString "parents", Str.ofString "depths", Str.ofString "children"].contains name) = false) (hk : K (.ref f) [.ref t] σ) : WM C A (.ref t) name σ K E := by
  obtain ⟨d, js, jp, jd, jc, g1, g2, _⟩ := T.ex
  refine WM_inst (f := f) c.K clsT h1 h2 g1 g2 ?_ hk
  simp only [List.contains_cons, List.contains_nil, Bool.or_eq_false_iff] at h3
  simp [tes, List.lookup_cons, h3]
theorem gu_spec {C : Cx} {A : Around} {σ : AH} {E : EX} {Q : V → AH → Prop} {t W H L : Nat} {vv : V} {v : List Int} (c : Law C) (rm : Room A 1) (T : TreeAt C σ t W H L) (ok : TreeOk W H L) (hn : W * H ≤ 49) (ov : Rd C σ vv (rowI v)) (lv : v.length = W * H)
    (hq : Q (.ref (σ.length + 1)) (σ ++ [O.list [.int 0]] ++ [O.list ((guP (psM W H L (3 * L)) v (W * H) (W * H - 1)).map .int)])) : WC C A (.ref 102) [.ref t, vv] σ Q E := by
  refine WC_def (pn := [Str.ofString "self", Str.ofString "values"]) (ln := [Str.ofString "out", Str.ofString "k", Str.ofString "up"]) (gl := [(Str.ofString "len", Value.builtin "len"), (Str.ofString "range", Value.type "range"), (Str.ofString "max", Value.builtin "max"), (Str.ofString "abs", Value.builtin "abs")]) (dv := []) (ds := []) (c.K _ _ rfl) rfl (codeRec_of c.K (by kernel_rfl)) (by first | exact Room.dep0 (by assumption) | assumption | lia | exact Nat.le_of_ble_eq_true rfl) .nil rfl (fun x v h => c.glo x v ((show ∀ p ∈ ([(Str.ofString "len", Value.builtin "len"), (Str.ofString "range", Value.type "range"), (Str.ofString "max", Value.builtin "max"), (Str.ofString "abs", Value.builtin "abs")] : List (Str × Value)), p ∈ lawGlo by decide +kernel) (x, v) h)) ?_ (by decide +kernel) (by decide +kernel) (by decide +kernel) (by decide +kernel) ?_
  · intro s xs hkp hl
    obtain ⟨x0, x1, rfl⟩ := len2 hl
    first | exact BindsTo.of_eq rfl | exact BindsTo.of_defaults rfl (hkp _ _ (c.K _ _ rfl)) rfl rfl rfl
  intro env henv
  replace c := c.wg [(Str.ofString "len", Value.builtin "len"), (Str.ofString "range", Value.type "range"), (Str.ofString "max", Value.builtin "max"), (Str.ofString "abs", Value.builtin "abs")]
  show WSs (C.wg [(Str.ofString "len", Value.builtin "len"), (Str.ofString "range", Value.type "range"), (Str.ofString "max", Value.builtin "max"), (Str.ofString "abs", Value.builtin "abs")]) _ _ _ [(Str.ofString "self", some (.ref t)), (Str.ofString "values", some (vv)), (Str.ofString "out", none), (Str.ofString "k", none), (Str.ofString "up", none)] _ _ _
  refine WSs_opqF fun _ _ _ => ?_
  have rm := rm.deep (env := env)
  obtain ⟨d, js, jp, jd, jc, h1, h2, h3, h4, h5, h6⟩ := T.ex
  have ov' := ov.rowI_inv
  have hP : (psM W H L (3 * L)).length = W * H := by rw [psM_len, ok.tot]
  have zn : W * H ≤ 100000 := Nat.le_trans hn (Nat.le_of_ble_eq_true rfl)
  refine WSs_asgW ?_; refine WE_BinOp ?_; refine WE_List ?_; refine WL_consE .int ?_; refine WL_ev .nil ?_; refine szAnd ?_
  refine WE_call (C := C) mem0 callable_builtin ?_
  refine WL_consE (.name mem1) ?_; refine WL_ev .nil ?_
  refine WC_lenI ov'.up lv zn ?_
  refine mul_li (xs := [.int 0]) (by simp) (by lia) (by lia) (by rw [Int.toNat_natCast]; simp; lia) ?_
  rw [rep_one, Int.toNat_natCast]
  refine exUp up2 ?_; refine WSs_cons ?_
  rw [show (σ ++ [O.list [V.int 0]]).length = σ.length + 1 by simp]
  refine WS_for (WItr_down rm.han mem1 ?_)
  refine WL_cons ?_; refine WE_BinR .int ?_
  refine WE_call (C := C) mem0 callable_builtin ?_
  refine WL_consE (.name mem1) ?_; refine WL_ev .nil ?_
  refine WC_lenI ov'.up.up lv zn ?_
  refine sub_ii ?_; refine WL_consE .int ?_; refine WL_consE (.neg .int) ?_; refine WL_ev .nil ?_
  refine exDown ⟨by lia, by decide, ?_⟩
  rw [show ((W * H : Nat) : Int) - 1 - 0 = ((W * H : Nat) : Int) - 1 by lia]
  have en : (((W * H : Nat) : Int) - 1).toNat = W * H - 1 := by lia
  rw [en]
  have tup := ok.up
  generalize hps : psM W H L (3 * L) = P at *
  generalize hnn : W * H = n at *
  refine ⟨fun i ρ' σ' => Ex2 fun t1 t2 => (σ' = σ ++ [O.list [.int 0]] ++ [O.list ((guP P v n i).map .int)]) ∧ (ρ' = ([(Str.ofString "self", some (.ref t)), (Str.ofString "values", some vv), (Str.ofString "out", some (.ref (List.length σ + 1))), (Str.ofString "k", t1), (Str.ofString "up", t2)] : Loc)), ⟨_, _, by simp [guP], rfl⟩, ?_, ?_⟩
  · rintro i ρ' σ' hi ⟨t1, t2, rfl, rfl⟩
    refine ⟨trivial, ?_⟩
    have ek : ((n : Int) - 1 - (i : Nat)) = ((n - 1 - i : Nat) : Int) := by lia
    show WAs _ _ _ _ (V.int ((n : Int) - 1 - (i : Nat))) _ _ _ _
    rw [ek]
    have hk : n - 1 - i < n := by lia
    generalize hkk : n - 1 - i = k at *
    have gl := guP_len P v n i
    have up := tup k hk
    have kP : k < P.length := by rw [hP]; exact hk
    have zP : P.length ≤ 100000 := by rw [hP]; exact zn
    have gi := guP_succ P v n i
    rw [hkk] at gi
    generalize guP P v n i = g at *
    refine WAs_opq fun _ _ _ => ?_; refine WAs_name up3 ?_; refine WSs_asgW ?_; refine WE_SubR (.name mem3) ?_; refine WE_attrN mem0 ?_
    refine at_parents c (gl_up (gl_up h1)) (gl_up (gl_up h2)) ?_
    refine item_intN (show ObjAt _ _ (.ref jp) _ from gl_up (gl_up h4)) zP kP ?_
    refine exUp up4 ?_; refine WSs_if ?_; refine WB_CmpR .int ?_; refine WE_ev (.name mem4) ?_; refine ge_ii ?_; refine WTr_bool ?_
    have og : ObjAt C (σ ++ [O.list [.int 0]] ++ [O.list (g.map .int)]) (.ref (σ.length + 1)) (.list (g.map .int)) := ObjAt.new (by simp)
    refine ite_b (fun hb => ?_) fun hb => ?_
    · have hb' := of_decide_eq_true hb
      obtain ⟨u, hu⟩ : ∃ u : Nat, P.getD k 0 = (u : Int) := Int.eq_ofNat_of_zero_le hb'
      have ug : u < g.length := by rw [gl]; rw [hu] at up; exact Nat.lt_trans (Int.ofNat_lt.mp up) hk
      have kg : k < g.length := by rw [gl]; exact hk
      have kv : k < v.length := by rw [lv]; exact hk
      have zg : g.length ≤ 100000 := by rw [gl]; exact zn
      refine WSs_cons ?_; refine WS_setitem ?_
      refine WE_call (C := C) mem2 callable_builtin ?_
      refine WL_cons ?_; refine WE_SubR (.name mem4) ?_; refine WE_ev (.name mem2) ?_
      refine item_intE og hu zg ug ?_
      refine WL_cons ?_; refine WE_SubR (.name mem3) ?_; refine WE_ev (.name mem2) ?_
      refine item_intN og zg kg ?_
      refine WL_cons ?_
      refine WE_call (C := C) mem3 callable_builtin ?_
      refine WL_cons ?_; refine WE_SubR (.name mem3) ?_; refine WE_ev (.name mem1) ?_
      refine item_intN ov'.up.up (by rw [lv]; exact zn) kv ?_
      refine WL_ev .nil ?_
      refine WC_abs ?_
      refine WL_ev .nil ?_
      refine WC_max3 rm.han ?_
      refine WE_ev (.name mem2) ?_; refine WE_ev (.name mem4) ?_
      refine seti_intE og hu zg ug ?_
      refine Thn_next ?_; refine WSs_nil ?_; refine Thn_next ?_; refine WSs_nil ?_; refine hOf (by assumption) ?_; refine LoopPost_next ?_
      refine ⟨_, _, ?_, rfl⟩
      rw [gi, guStep, if_pos hb', hu, Int.toNat_natCast, List.set_append_right _ _ (by simp)]
      simp [av]
    · have hb' := of_decide_eq_false hb
      refine WSs_nil ?_; refine Thn_next ?_; refine WSs_nil ?_; refine hOf (by assumption) ?_; refine LoopPost_next ?_
      refine ⟨_, _, ?_, rfl⟩
      rw [gi, guStep, if_neg hb']
  · rintro ρ' σ' ⟨t1, t2, rfl, rfl⟩
    refine ⟨trivial, ?_⟩
    refine Thn_next ?_; refine WSs_retE (.name mem2) ?_; refine hOf (by assumption) ?_
    exact hq
end Mine

-- part E15b
set_option linter.unusedVariables false
namespace Mine
open PySem PySem.W PyProof.Rows
theorem number_ok {C : Cx} {A : Around} {σ : AH} {E : EX} {Q : V → AH → Prop} {v lo hi : Int} {w : Str} (c : Law C) (rm : Room A 1) (h0 : lo ≤ v) (h1 : v ≤ hi) (hq : Q (.int v) σ) : WC C A (.ref 48) [.int v, .int lo, .int hi, .str w] σ Q E := by
  refine WC_def (pn := [Str.ofString "value", Str.ofString "least", Str.ofString "most", Str.ofString "what"]) (ln := []) (gl := [(Str.ofString "type", Value.type "type"), (Str.ofString "int", Value.type "int"), (Str.ofString "PackError", Value.ref 31), (Str.ofString "shown", Value.ref 41)]) (dv := []) (ds := []) (c.K _ _ rfl) rfl (codeRec_of c.K (by kernel_rfl)) (by first | exact Room.dep0 (by assumption) | assumption | lia | exact Nat.le_of_ble_eq_true rfl) .nil rfl (fun x v h => c.glo x v ((show ∀ p ∈ ([(Str.ofString "type", Value.type "type"), (Str.ofString "int", Value.type "int"), (Str.ofString "PackError", Value.ref 31), (Str.ofString "shown", Value.ref 41)] : List (Str × Value)), p ∈ lawGlo by decide +kernel) (x, v) h)) ?_ (by decide +kernel) (by decide +kernel) (by decide +kernel) (by decide +kernel) ?_
  · intro s xs hkp hl
    obtain ⟨x0, x1, x2, x3, rfl⟩ := len4 hl
    first | exact BindsTo.of_eq rfl | exact BindsTo.of_defaults rfl (hkp _ _ (c.K _ _ rfl)) rfl rfl rfl
  intro env henv
  replace c := c.wg [(Str.ofString "type", Value.type "type"), (Str.ofString "int", Value.type "int"), (Str.ofString "PackError", Value.ref 31), (Str.ofString "shown", Value.ref 41)]
  show WSs (C.wg [(Str.ofString "type", Value.type "type"), (Str.ofString "int", Value.type "int"), (Str.ofString "PackError", Value.ref 31), (Str.ofString "shown", Value.ref 41)]) _ _ _ [(Str.ofString "value", some (.int v)), (Str.ofString "least", some (.int lo)), (Str.ofString "most", some (.int hi)), (Str.ofString "what", some (.str w))] _ _ _
  refine WSs_opqF fun _ _ _ => ?_
  refine WSs_if ?_; refine WB_or ?_; refine WB_Compare1 ?_
  refine WE_call mem0 callable_type ?_
  refine WL_consE (.name mem0) ?_; refine WL_ev .nil ?_
  refine WC_typeI ?_
  refine WE_glob mem1 ?_
  refine isNot_self_k ?_
  refine WTr_bool ?_; refine WB_or ?_; refine WB_CmpR (.name mem1) ?_; refine WE_ev (.name mem0) ?_; refine lt_ii ?_; refine WTr_bool ?_
  refine ite_f (decide_eq_false (by lia)) ?_
  refine WB_or ?_; refine WB_CmpR (.name mem2) ?_; refine WE_ev (.name mem0) ?_; refine gt_ii ?_; refine WTr_bool ?_
  refine ite_f (decide_eq_false (by lia)) ?_
  refine WB_or_nil ?_; refine WSs_nil ?_; refine Thn_next ?_; refine WSs_retE (.name mem0) ?_; refine hOf (by assumption) ?_
  exact hq
noncomputable def wns (b : Nat) (lo hi : Int) (wt : Nat) : List (Str × V) := [(Str.ofString "model", .ref (b + 3)), (Str.ofString "low", .int lo), (Str.ofString "high", .int hi), (Str.ofString "waiting", .int wt), (Str.ofString "bits", .ref (b + 5))]
theorem wns_low {b : Nat} {lo hi x : Int} {wt : Nat} : putNs (Str.ofString "low") (.int x) (wns b lo hi wt) = wns b x hi wt := by kernel_rfl
theorem wns_high {b : Nat} {lo hi x : Int} {wt : Nat} : putNs (Str.ofString "high") (.int x) (wns b lo hi wt) = wns b lo x wt := by kernel_rfl
theorem wns_wait {b : Nat} {lo hi : Int} {wt x : Nat} : putNs (Str.ofString "waiting") (.int x) (wns b lo hi wt) = wns b lo hi x := by kernel_rfl
theorem wns_len {b : Nat} {lo hi : Int} {wt : Nat} : (wns b lo hi wt).length ≤ sizeLine := Nat.le_of_ble_eq_true rfl
/-- the writer without its model: how it stands against an earlier heap -/
structure LAt (σ1 σ' : AH) (b : Nat) (e : Enc) : Prop where
  ns : σ'[b]? = some (.ns (wns b e.low e.high e.wait))
  inst : σ'[b + 1]? = some (.inst 213 b)
  bits : σ'[b + 5]? = some (.list (e.bits.map .int))
  len : σ1.length ≤ σ'.length
  same : ∀ i, i < σ1.length → i ≠ b → i ≠ b + 5 → σ'[i]? = σ1[i]?
section
variable {C : Cx} {A : Around} {σ σ1 : AH} {E : EX} {Q : V → AH → Prop} {b : Nat} {e : Enc}
theorem w_model (c : Law C) (h : LAt σ1 σ b e) (hq : Q (.ref (b + 3)) σ) : WAt C A (.ref (b + 1)) (Str.ofString "model") σ Q E := at_inst c.K clsW (by kernel_rfl) h.inst h.ns (by kernel_rfl) rfl hq
theorem w_low (c : Law C) (h : LAt σ1 σ b e) (hq : Q (.int e.low) σ) : WAt C A (.ref (b + 1)) (Str.ofString "low") σ Q E := at_inst c.K clsW (by kernel_rfl) h.inst h.ns (by kernel_rfl) rfl hq
theorem w_high (c : Law C) (h : LAt σ1 σ b e) (hq : Q (.int e.high) σ) : WAt C A (.ref (b + 1)) (Str.ofString "high") σ Q E := at_inst c.K clsW (by kernel_rfl) h.inst h.ns (by kernel_rfl) rfl hq
theorem w_wait (c : Law C) (h : LAt σ1 σ b e) (hq : Q (.int e.wait) σ) : WAt C A (.ref (b + 1)) (Str.ofString "waiting") σ Q E := at_inst c.K clsW (by kernel_rfl) h.inst h.ns (by kernel_rfl) rfl hq
theorem w_bits (c : Law C) (h : LAt σ1 σ b e) (hq : Q (.ref (b + 5)) σ) : WAt C A (.ref (b + 1)) (Str.ofString "bits") σ Q E := at_inst c.K clsW (by kernel_rfl) h.inst h.ns (by kernel_rfl) rfl hq
theorem LAt.put {σ' : AH} (h : LAt σ1 σ' b e) {e' : Enc} (hb : e'.bits = e.bits) : LAt σ1 (σ'.set b (.ns (wns b e'.low e'.high e'.wait))) b e' := by
  have hl := (List.getElem?_eq_some_iff.mp h.ns).1
  refine ⟨List.getElem?_set_self hl, ?_, ?_, by rw [List.length_set]; exact h.len, fun i hi h1 h2 => ?_⟩
  · rw [List.getElem?_set_ne (by lia)]; exact h.inst
  · rw [List.getElem?_set_ne (by lia), hb]; exact h.bits
  · rw [List.getElem?_set_ne (Ne.symm h1)]; exact h.same i hi h1 h2
theorem LAt.bit {σ' : AH} (h : LAt σ1 σ' b e) (l : List Int) : LAt σ1 (σ'.set (b + 5) (.list (l.map .int))) b { e with bits := l } := by
  have hl := (List.getElem?_eq_some_iff.mp h.bits).1
  refine ⟨?_, ?_, List.getElem?_set_self hl, by rw [List.length_set]; exact h.len, fun i hi h1 h2 => ?_⟩
  · rw [List.getElem?_set_ne (by lia)]; exact h.ns
  · rw [List.getElem?_set_ne (by lia)]; exact h.inst
  · rw [List.getElem?_set_ne (Ne.symm h2)]; exact h.same i hi h1 h2
theorem LAt.up {σ' J : AH} (h : LAt σ1 σ' b e) : LAt σ1 (σ' ++ J) b e :=
  ⟨gl_up h.ns, gl_up h.inst, gl_up h.bits, by rw [List.length_append]; exact Nat.le_trans h.len (Nat.le_add_right _ _), fun i hi h1 h2 => by
    rw [List.getElem?_append_left (Nat.lt_of_lt_of_le hi h.len)]; exact h.same i hi h1 h2⟩
theorem set_low (c : Law C) (h : LAt σ1 σ b e) {x : Int} {Q : AH → Prop} (hq : ∀ σ', LAt σ1 σ' b { e with low := x } → Q σ') : WSt C A (.ref (b + 1)) (Str.ofString "low") (.int x) σ Q E := by
  refine set_inst c.K clsW (by kernel_rfl) h.inst h.ns wns_len ?_
  rw [wns_low]; exact hq _ (h.put (e' := { e with low := x }) rfl)
theorem set_high (c : Law C) (h : LAt σ1 σ b e) {x : Int} {Q : AH → Prop} (hq : ∀ σ', LAt σ1 σ' b { e with high := x } → Q σ') : WSt C A (.ref (b + 1)) (Str.ofString "high") (.int x) σ Q E := by
  refine set_inst c.K clsW (by kernel_rfl) h.inst h.ns wns_len ?_
  rw [wns_high]; exact hq _ (h.put (e' := { e with high := x }) rfl)
theorem set_wait (c : Law C) (h : LAt σ1 σ b e) {x : Nat} {Q : AH → Prop} (hq : ∀ σ', LAt σ1 σ' b { e with wait := x } → Q σ') : WSt C A (.ref (b + 1)) (Str.ofString "waiting") (.int x) σ Q E := by
  refine set_inst c.K clsW (by kernel_rfl) h.inst h.ns wns_len ?_
  rw [wns_wait]; exact hq _ (h.put (e' := { e with wait := x }) rfl)
end
theorem put1_spec {C : Cx} {A : Around} {σ σ1 : AH} {E : EX} {Q : V → AH → Prop} {b : Nat} {e : Enc} {bit : Int} (c : Law C) (rm : Room A 1) (h : LAt σ1 σ b e) (hz : e.bits.length + e.wait ≤ 90000)
    (hq : ∀ σ', LAt σ1 σ' b { e with bits := e.bits ++ [bit] ++ List.replicate e.wait (1 - bit), wait := 0 } → Q .none σ') : WC C A (.ref 196) [.ref (b + 1), .int bit] σ Q E := by
  refine WC_def (pn := [Str.ofString "self", Str.ofString "bit"]) (ln := []) (gl := []) (dv := []) (ds := []) (c.K _ _ rfl) rfl (codeRec_of c.K (by kernel_rfl)) (by first | exact Room.dep0 (by assumption) | assumption | lia | exact Nat.le_of_ble_eq_true rfl) .nil rfl (fun x v h => c.glo x v ((show ∀ p ∈ ([] : List (Str × Value)), p ∈ lawGlo by decide +kernel) (x, v) h)) ?_ (by decide +kernel) (by decide +kernel) (by decide +kernel) (by decide +kernel) ?_
  · intro s xs hkp hl
    obtain ⟨x0, x1, rfl⟩ := len2 hl
    first | exact BindsTo.of_eq rfl | exact BindsTo.of_defaults rfl (hkp _ _ (c.K _ _ rfl)) rfl rfl rfl
  intro env henv
  replace c := c.wg []
  show WSs (C.wg []) _ _ _ [(Str.ofString "self", some (.ref (b + 1))), (Str.ofString "bit", some (.int bit))] _ _ _
  refine WSs_opqF fun _ _ _ => ?_
  have rm := rm.deep (env := env)
  refine WSs_expr ?_
  refine WE_meth ?_
  refine WE_attrN mem0 ?_
  refine w_bits c h ?_
  refine WM_append h.bits ⟨callable_builtin, ?_⟩
  refine WL_consE (.name mem1) ?_; refine WL_ev .nil ?_
  refine WC_appE (n := 90000) h.bits (by rw [List.length_map]; lia) (by decide) ?_
  have e1 : e.bits.map V.int ++ [V.int bit] = (e.bits ++ [bit]).map V.int := by simp
  rw [e1]
  replace h := h.bit (e.bits ++ [bit])
  generalize σ.set (b + 5) (O.list ((e.bits ++ [bit]).map V.int)) = σ at *
  refine WSs_expr ?_
  refine WE_meth ?_
  refine WE_attrN mem0 ?_
  refine w_bits c h ?_
  refine WM_extend h.bits ⟨callable_builtin, ?_⟩
  refine WL_cons ?_; refine WE_BinOp ?_; refine WE_List ?_; refine WL_cons ?_; refine WE_BinR (.name mem1) ?_; refine WE_ev .int ?_; refine sub_ii ?_; refine WL_ev .nil ?_; refine szAnd ?_; refine WE_attrN mem0 ?_
  refine w_wait c h.up ?_
  refine mul_li (x := (e.wait : Int)) (xs := [.int (1 - bit)]) (ObjAt.new (C := C) rfl) (by lia) (by lia) (by simp; lia) ?_
  rw [rep_one, Int.toNat_natCast]
  replace h := h.up (J := [O.list [V.int (1 - bit)]])
  replace h := h.up (J := [O.list (List.replicate e.wait (V.int (1 - bit)))])
  refine WL_ev .nil ?_
  refine WC_extend h.bits (ObjAt.new (C := C) rfl) (by have e3 : sizeLine = 16777216 := rfl; simp; lia) ?_
  have e2 : (e.bits ++ [bit]).map V.int ++ List.replicate e.wait (V.int (1 - bit)) = (e.bits ++ [bit] ++ List.replicate e.wait (1 - bit)).map V.int := by simp
  rw [e2]
  replace h := h.bit (e.bits ++ [bit] ++ List.replicate e.wait (1 - bit))
  refine WSs_cons ?_; refine WS_setattr ?_; refine WE_ev .int ?_; refine WE_ev (.name mem0) ?_
  refine set_wait (x := 0) c h fun σ' h' => ?_
  refine Thn_next ?_; refine WSs_nil ?_; refine hOf (by assumption) ?_
  exact hq σ' h'
structure WrAt (σ : AH) (b : Nat) (rs : RW) (w : Wst) : Prop where
  l : LAt σ σ b w.1
  mod : MdAt σ (b + 2) rs w.2
  pos : ∀ e ∈ rs, b + 5 < e.2.2
structure WExt (σ σ' : AH) (b : Nat) (rs rs' : RW) : Prop where
  len : σ.length ≤ σ'.length
  same : ∀ i, i < σ.length → i ≠ b → i ≠ b + 4 → i ≠ b + 5 → (∀ e ∈ rs, i ≠ e.2.2) → σ'[i]? = σ[i]?
  new : ∀ e ∈ rs', e ∈ rs ∨ σ.length ≤ e.2.2
  cnt : rs'.length ≤ rs.length + 2
/-- the model after the writer's other objects have changed -/
theorem LAt.mod {σ1 σ' : AH} {b : Nat} {e e1 : Enc} {rs : RW} {M : Cts} (h : LAt σ1 σ' b e) (h1 : LAt σ1 σ1 b e1) (m : MdAt σ1 (b + 2) rs M) (pos : ∀ e ∈ rs, b + 5 < e.2.2) : MdAt σ' (b + 2) rs M := by
  have lt : ∀ {i : Nat} {o : O}, σ1[i]? = some o → i < σ1.length := fun h => (List.getElem?_eq_some_iff.mp h).1
  refine m.frame (h.same _ (lt m.ns) (by lia) (by lia)) (h.same _ (lt m.inst) (by lia) (by lia)) (h.same _ (lt m.dict) (by lia) (by lia)) (fun e he => h.same _ (lt (m.rows e he)) ?_ ?_) fun i xs hi => ?_
  · have := pos e he; lia
  · have := pos e he; lia
  · rw [h.same i (lt hi) (fun q => by rw [q, h1.ns] at hi; cases hi) (fun q => by rw [q, h1.bits] at hi; cases hi)]; exact hi
/-- the rest of the writer after the model has changed -/
theorem MExt.l {σ σ' : AH} {b : Nat} {e : Enc} {rs rs' : RW} (x : MExt σ σ' (b + 2) rs rs') (h : LAt σ σ b e) (pos : ∀ e ∈ rs, b + 5 < e.2.2) : LAt σ' σ' b e := by
  have lt : ∀ {i : Nat} {o : O}, σ[i]? = some o → i < σ.length := fun h => (List.getElem?_eq_some_iff.mp h).1
  refine ⟨?_, ?_, ?_, Nat.le_refl _, fun _ _ _ _ => rfl⟩
  · rw [x.same b (lt h.ns) (by lia) fun e he => by have := pos e he; lia]; exact h.ns
  · rw [x.same (b + 1) (lt h.inst) (by lia) fun e he => by have := pos e he; lia]; exact h.inst
  · rw [x.same (b + 5) (lt h.bits) (by lia) fun e he => by have := pos e he; lia]; exact h.bits
theorem MExt.pos {σ σ' : AH} {b : Nat} {e : Enc} {rs rs' : RW} (x : MExt σ σ' (b + 2) rs rs') (h : LAt σ σ b e) (pos : ∀ e ∈ rs, b + 5 < e.2.2) : ∀ e ∈ rs', b + 5 < e.2.2 := fun e' he => by
  rcases x.new e' he with h' | h'
  · exact pos e' h'
  · exact Nat.lt_of_lt_of_le (List.getElem?_eq_some_iff.mp h.bits).1 h'
theorem KeyV.l {σ1 σ' : AH} {b : Nat} {e e1 : Enc} {k : MK} {t : Nat} {kv : V} (hk : KeyV σ1 k t kv) (h : LAt σ1 σ' b e) (h1 : LAt σ1 σ1 b e1) : KeyV σ' k t kv := by
  cases k with
  | s x => exact hk
  | t ks =>
    refine ⟨hk.1, ?_⟩
    rw [h.same t (List.getElem?_eq_some_iff.mp hk.2).1 (fun q => by have := hk.2; rw [q, h1.ns] at this; cases this) (fun q => by have := hk.2; rw [q, h1.bits] at this; cases this)]
    exact hk.2
end Mine

-- part E15c
set_option linter.unusedVariables false
namespace Mine
open PySem PySem.W PyProof.Rows
noncomputable def Enc.pre (e : Enc) (c : Int) : Enc :=
  { e with low := e.low - c, high := e.high - c, wait := if c = 4194304 then e.wait + 1 else 0,
           bits := if c = 4194304 then e.bits else if c = 0 then e.bits ++ [0] ++ List.replicate e.wait 1 else e.bits ++ [1] ++ List.replicate e.wait 0 }
theorem LAt.congr {σ1 σ' : AH} {b : Nat} {e e' : Enc} (h : LAt σ1 σ' b e) (h1 : e.low = e'.low) (h2 : e.high = e'.high) (h3 : e.wait = e'.wait) (h4 : e.bits = e'.bits) : LAt σ1 σ' b e' :=
  ⟨by rw [← h1, ← h2, ← h3]; exact h.ns, h.inst, by rw [← h4]; exact h.bits, h.len, h.same⟩
theorem put_spec {C : Cx} {A : Around} {σ : AH} {E : EX} {Q : V → AH → Prop} {b t : Nat} {rs : RW} {w : Wst} {k : MK} {kv : V} {bit : Int} (c : Law C) (rm : Room A 3) (h : WrAt σ b rs w) (ok : WOk w) (hz : rs.length ≤ 900) (hK : w.1.k ≤ 50000) (hk : KeyV σ k t kv) (hb : bit = 0 ∨ bit = 1)
    (hq : ∀ σ' rs', WrAt σ' b rs' (wput w (k, bit)) → WExt σ σ' b rs rs' → Q .none σ') : WC C A (.ref 203) [.ref (b + 1), kv, .int bit] σ Q E := by
  refine WC_def (pn := [Str.ofString "self", Str.ofString "context", Str.ofString "bit"]) (ln := [Str.ofString "middle"]) (gl := [(Str.ofString "need_number", Value.ref 48), (Str.ofString "HALF", Value.int 8388608 388), (Str.ofString "QUARTER", Value.int 4194304 391)]) (dv := []) (ds := []) (c.K _ _ rfl) rfl (codeRec_of c.K (by kernel_rfl)) (by first | exact Room.dep0 (by assumption) | assumption | lia | exact Nat.le_of_ble_eq_true rfl) .nil rfl (fun x v h => c.glo x v ((show ∀ p ∈ ([(Str.ofString "need_number", Value.ref 48), (Str.ofString "HALF", Value.int 8388608 388), (Str.ofString "QUARTER", Value.int 4194304 391)] : List (Str × Value)), p ∈ lawGlo by decide +kernel) (x, v) h)) ?_ (by decide +kernel) (by decide +kernel) (by decide +kernel) (by decide +kernel) ?_
  · intro s xs hkp hl
    obtain ⟨x0, x1, x2, rfl⟩ := len3 hl
    first | exact BindsTo.of_eq rfl | exact BindsTo.of_defaults rfl (hkp _ _ (c.K _ _ rfl)) rfl rfl rfl
  intro env henv
  replace c := c.wg [(Str.ofString "need_number", Value.ref 48), (Str.ofString "HALF", Value.int 8388608 388), (Str.ofString "QUARTER", Value.int 4194304 391)]
  show WSs (C.wg [(Str.ofString "need_number", Value.ref 48), (Str.ofString "HALF", Value.int 8388608 388), (Str.ofString "QUARTER", Value.int 4194304 391)]) _ _ _ [(Str.ofString "self", some (.ref (b + 1))), (Str.ofString "context", some (kv)), (Str.ofString "bit", some (.int bit)), (Str.ofString "middle", none)] _ _ _
  refine WSs_opqF fun _ _ _ => ?_
  have rm := rm.deep (env := env)
  have ei := ok.r.inv
  have ew := ok.r.wide
  obtain ⟨mid1, mid2⟩ := ok.mid k
  refine WSs_expr ?_
  refine WE_call (C := C) mem0 c.c48 ?_
  refine WL_consE (.name mem2) ?_; refine WL_consE .int ?_; refine WL_consE .int ?_; refine WL_consE .str ?_; refine WL_ev .nil ?_
  refine number_ok c rm.le (by lia) (by lia) ?_
  refine WSs_asgW ?_
  refine WE_meth ?_
  refine WE_attrN mem0 ?_
  refine w_model c h.l ?_
  refine WM_inst (f := 168) c.K clsM (by kernel_rfl) (by kernel_rfl) h.mod.inst h.mod.ns (by kernel_rfl) ⟨callable_K c.K (by kernel_rfl), ?_⟩
  refine WL_consE (.name mem1) ?_; refine WL_cons ?_; refine WE_attrN mem0 ?_
  refine w_low c h.l ?_
  refine WL_cons ?_; refine WE_attrN mem0 ?_
  refine w_high c h.l ?_
  refine WL_ev .nil ?_
  refine split_spec c rm.le h.mod (by lia) hk (ok.m k) ?_ (by have := ei.lo; have := ei.hi; lia)
  intro σ1 rs1 m1 x1
  have l1 := x1.l h.l h.pos
  have p1 := x1.pos h.l h.pos
  have k1 := hk.ext h.mod x1
  apply exUp
  focus exact up3
  try refine Thn_next ?_
  refine WSs_cons ?_
  refine WS.conseqI (Q := fun fl ρ' σ' => fl = .next ∧ ρ' = ([(Str.ofString "self", (some (V.ref (b + 1)))), (Str.ofString "context", (some kv)), (Str.ofString "bit", (some (.int bit))), (Str.ofString "middle", (some (.int (midOf (w.2 k) w.1.low w.1.high))))] : Loc) ∧ LAt σ1 σ' b (w.1.narrow (midOf (w.2 k) w.1.low w.1.high) bit)) (fun _ _ => ?_) ?_
  · rcases hb with rfl | rfl
    · refine WS_if ?_; refine WB_CmpR .int ?_; refine WE_ev (.name mem2) ?_; refine eq_ii ?_; refine WTr_bool ?_; refine WSs_cons ?_; refine WS_setattr ?_; refine WE_ev (.name mem3) ?_; refine WE_ev (.name mem0) ?_
      refine set_high c l1 fun σ' h' => ?_
      refine Thn_next ?_; refine WSs_nil ?_; refine hOf (by assumption) ?_
      exact ⟨rfl, rfl, h'⟩
    · refine WS_if ?_; refine WB_CmpR .int ?_; refine WE_ev (.name mem2) ?_; refine eq_ii ?_; refine WTr_bool ?_; refine WSs_cons ?_; refine WS_setattr ?_; refine WE_ev (.name mem3) ?_; refine WE_ev (.name mem0) ?_
      refine set_low c l1 fun σ' h' => ?_
      refine Thn_next ?_; refine WSs_nil ?_; refine hOf (by assumption) ?_
      exact ⟨rfl, rfl, h'⟩
  rintro fl ρ' σ2 ⟨rfl, rfl, l2⟩
  have m2 := l2.mod l1 m1 p1
  have k2 := k1.l l2 l1
  refine Thn_next ?_; refine WSs_expr ?_
  refine WE_meth ?_
  refine WE_attrN mem0 ?_
  refine w_model c l2 ?_
  refine WM_inst (f := 161) c.K clsM (by kernel_rfl) (by kernel_rfl) m2.inst m2.ns (by kernel_rfl) ⟨callable_K c.K (by kernel_rfl), ?_⟩
  refine WL_consE (.name mem1) ?_; refine WL_consE (.name mem2) ?_; refine WL_ev .nil ?_
  refine note_spec c rm.le m2 (by have := x1.cnt; lia) k2 (ok.m k) hb ?_
  intro σ3 rs3 m3 x3
  have l22 : LAt σ2 σ2 b (w.1.narrow (midOf (w.2 k) w.1.low w.1.high) bit) := ⟨l2.ns, l2.inst, l2.bits, Nat.le_refl _, fun _ _ _ _ => rfl⟩
  have l3 := x3.l l22 p1
  have p3 := x3.pos l22 p1
  have en := ei.narrow (bit := bit) mid1 mid2
  have nk : (w.1.narrow (midOf (w.2 k) w.1.low w.1.high) bit).k = w.1.k := by unfold Enc.narrow; split <;> rfl
  have fin : ∀ σ', LAt σ3 σ' b (Enc.ren 25 (w.1.narrow (midOf (w.2 k) w.1.low w.1.high) bit)) → Q .none σ' := by
    intro σ' l4
    refine hq σ' rs3 ⟨⟨l4.ns, l4.inst, l4.bits, Nat.le_refl _, fun _ _ _ _ => rfl⟩, l4.mod l3 m3 p3, p3⟩ ⟨Nat.le_trans x1.len (Nat.le_trans l2.len (Nat.le_trans x3.len l4.len)), fun i hi h1 h4 h5 hr => ?_, fun e he => ?_, by have := x1.cnt; have := x3.cnt; lia⟩
    · have hi1 := Nat.lt_of_lt_of_le hi x1.len
      have hi2 := Nat.lt_of_lt_of_le hi1 l2.len
      have hr1 : ∀ e ∈ rs1, i ≠ e.2.2 := fun e he => by
        rcases x1.new e he with he | he
        · exact hr e he
        · lia
      rw [l4.same i (Nat.lt_of_lt_of_le hi2 x3.len) h1 h5, x3.same i hi2 h4 hr1, l2.same i hi1 h1 h5, x1.same i hi h4 hr]
    · rcases x3.new e he with he | he
      · exact x1.new e he
      · exact .inr (Nat.le_trans x1.len (Nat.le_trans l2.len he))
  generalize w.1.narrow (midOf (w.2 k) w.1.low w.1.high) bit = e0 at *
  clear l2 m2 k2 m1 x1 l1 p1 k1 x3 p3 m3 l22
  repeat (first | refine Thn_next ?_ | refine WSs_cons ?_)
  refine WS_while (fun f ρ' σ' => Ex1 fun e => And6 (ρ' = ([(Str.ofString "self", (some (V.ref (b + 1)))), (Str.ofString "context", (some kv)), (Str.ofString "bit", (some (.int bit))), (Str.ofString "middle", (some (.int (midOf (w.2 k) w.1.low w.1.high))))] : Loc)) (LAt σ3 σ' b e) (EInv e) (16777216 < (e.high - e.low) * 2 ^ f) (Enc.ren f e = Enc.ren 25 e0) (e.k + f ≤ 60000)) 25 ⟨e0, rfl, l3, en, pow_le25 (by have := en.lt; lia), rfl, by lia⟩ ?_
  rintro f ρ' σ' ⟨e, rfl, l, i, big, hr, hf⟩
  refine WB_plain ?_
  refine WE_bool ?_
  refine WTr_bool ?_
  refine ite_t rfl ?_
  refine WSs_cons ?_
  have hkb : e.bits.length + e.wait ≤ 90000 := by have := i.k; lia
  refine WS.conseqI (Q := fun fl ρ' σ'' => (fl = .next ∧ ρ' = ([(Str.ofString "self", (some (V.ref (b + 1)))), (Str.ofString "context", (some kv)), (Str.ofString "bit", (some (.int bit))), (Str.ofString "middle", (some (.int (midOf (w.2 k) w.1.low w.1.high))))] : Loc) ∧ ∃ c, rn e.low e.high = some c ∧ LAt σ3 σ'' b (e.pre c)) ∨ (fl = .brk ∧ ρ' = ([(Str.ofString "self", (some (V.ref (b + 1)))), (Str.ofString "context", (some kv)), (Str.ofString "bit", (some (.int bit))), (Str.ofString "middle", (some (.int (midOf (w.2 k) w.1.low w.1.high))))] : Loc) ∧ rn e.low e.high = none ∧ LAt σ3 σ'' b e)) (fun _ _ => ?_) ?_
  · refine WS_if ?_; refine WB_CmpR (.glob mem1) ?_; refine WE_attrN mem0 ?_
    refine w_high c l ?_
    refine le_ii ?_; refine WTr_bool ?_
    refine ite_b (fun hc => ?_) fun hc => ?_
    · have hc' := of_decide_eq_true hc
      refine WSs_expr ?_
      refine WE_meth ?_
      refine WE_ev (.name mem0) ?_
      refine WM_inst (f := 196) c.K clsW (by kernel_rfl) (by kernel_rfl) l.inst l.ns (by kernel_rfl) ⟨callable_K c.K (by kernel_rfl), ?_⟩
      refine WL_consE .int ?_; refine WL_ev .nil ?_
      refine put1_spec c rm.le l hkb fun σ'' l'' => ?_
      refine WSs_nil ?_; refine hOf (by assumption) ?_
      exact .inl ⟨rfl, rfl, 0, by rw [rn, if_pos hc'], l''.congr (by simp [Enc.pre]) (by simp [Enc.pre]) (by simp [Enc.pre]) (by simp [Enc.pre])⟩
    have hc1 := of_decide_eq_false hc
    refine WSs_if ?_; refine WB_CmpR (.glob mem1) ?_; refine WE_attrN mem0 ?_
    refine w_low c l ?_
    refine ge_ii ?_; refine WTr_bool ?_
    refine ite_b (fun hd => ?_) fun hd => ?_
    · have hd' := of_decide_eq_true hd
      refine WSs_expr ?_
      refine WE_meth ?_
      refine WE_ev (.name mem0) ?_
      refine WM_inst (f := 196) c.K clsW (by kernel_rfl) (by kernel_rfl) l.inst l.ns (by kernel_rfl) ⟨callable_K c.K (by kernel_rfl), ?_⟩
      refine WL_consE .int ?_; refine WL_ev .nil ?_
      refine put1_spec c rm.le l hkb fun σ'' l'' => ?_
      refine WSs_cons ?_; refine WS_setattr ?_; refine WE_BinR (.glob mem1) ?_; refine WE_attrN mem0 ?_
      refine w_low c l'' ?_
      refine sub_ii ?_; refine WE_ev (.name mem0) ?_
      refine set_low c l'' fun σ5 l5 => ?_
      refine Thn_next ?_; refine WSs_cons ?_; refine WS_setattr ?_; refine WE_BinR (.glob mem1) ?_; refine WE_attrN mem0 ?_
      refine w_high c l5 ?_
      refine sub_ii ?_; refine WE_ev (.name mem0) ?_
      refine set_high c l5 fun σ6 l6 => ?_
      refine Thn_next ?_; refine WSs_nil ?_; refine Thn_next ?_; refine WSs_nil ?_; refine hOf (by assumption) ?_
      exact .inl ⟨rfl, rfl, 8388608, by rw [rn, if_neg hc1, if_pos hd'], l6.congr rfl rfl (by simp [Enc.pre]) (by simp [Enc.pre])⟩
    have hd1 := of_decide_eq_false hd
    refine WSs_if ?_; refine WB_and ?_; refine WB_CmpR (.glob mem2) ?_; refine WE_attrN mem0 ?_
    refine w_low c l ?_
    refine ge_ii ?_; refine WTr_bool ?_
    refine ite_b (fun hg => ?_) fun hg => ?_
    · have hg' := of_decide_eq_true hg
      refine WB_and ?_; refine WB_Compare1 ?_; refine WE_attrN mem0 ?_
      refine w_high c l ?_
      refine WE_BinR (.glob mem2) ?_; refine WE_ev .int ?_
      refine mul_ii (mul_small (by lia) (by lia)) ?_
      refine le_ii ?_; refine WTr_bool ?_
      refine ite_b (fun hj => ?_) fun hj => ?_
      · have hj' := of_decide_eq_true hj
        refine WB_and_nil ?_; refine WSs_cons ?_; refine WS_setattr ?_; refine WE_BinR .int ?_; refine WE_attrN mem0 ?_
        refine w_wait c l ?_
        refine add_ii ?_; refine WE_ev (.name mem0) ?_
        refine set_wait (x := e.wait + 1) c l fun σ4 l4 => ?_
        refine Thn_next ?_; refine WSs_cons ?_; refine WS_setattr ?_; refine WE_BinR (.glob mem2) ?_; refine WE_attrN mem0 ?_
        refine w_low c l4 ?_
        refine sub_ii ?_; refine WE_ev (.name mem0) ?_
        refine set_low c l4 fun σ5 l5 => ?_
        refine Thn_next ?_; refine WSs_cons ?_; refine WS_setattr ?_; refine WE_BinR (.glob mem2) ?_; refine WE_attrN mem0 ?_
        refine w_high c l5 ?_
        refine sub_ii ?_; refine WE_ev (.name mem0) ?_
        refine set_high c l5 fun σ6 l6 => ?_
        refine Thn_next ?_; refine WSs_nil ?_; refine Thn_next ?_; refine WSs_nil ?_; refine Thn_next ?_; refine WSs_nil ?_; refine hOf (by assumption) ?_
        exact .inl ⟨rfl, rfl, 4194304, by rw [rn, if_neg hc1, if_neg hd1, if_pos ⟨hg', by lia⟩], l6.congr rfl rfl (by simp [Enc.pre]) (by simp [Enc.pre])⟩
      · have hj' := of_decide_eq_false hj
        refine WSs_cons ?_; refine WS_break ?_; refine Thn_brk ?_; refine Thn_brk ?_; refine Thn_brk ?_; refine hOf (by assumption) ?_
        exact .inr ⟨rfl, rfl, by rw [rn, if_neg hc1, if_neg hd1, if_neg (by lia)], l⟩
    · have hg' := of_decide_eq_false hg
      refine WSs_cons ?_; refine WS_break ?_; refine Thn_brk ?_; refine Thn_brk ?_; refine Thn_brk ?_; refine hOf (by assumption) ?_
      exact .inr ⟨rfl, rfl, by rw [rn, if_neg hc1, if_neg hd1, if_neg (by lia)], l⟩
  rintro fl ρ' σ4 (⟨rfl, rfl, cc, hc, l4⟩ | ⟨rfl, rfl, hn, l4⟩)
  · refine Thn_next ?_; refine WSs_opq fun _ _ _ => ?_; refine WSs_cons ?_; refine WS_setattr ?_; refine WE_BinL .int ?_; refine WE_attrN mem0 ?_
    refine w_low c l4 ?_
    refine mul_ii (mul_small (by lia) (by lia)) ?_
    refine WE_ev (.name mem0) ?_
    refine set_low c l4 fun σ5 l5 => ?_
    refine Thn_next ?_; refine WSs_cons ?_; refine WS_setattr ?_; refine WE_BinL .int ?_; refine WE_attrN mem0 ?_
    refine w_high c l5 ?_
    refine mul_ii (mul_small (by lia) (by lia)) ?_
    refine WE_ev (.name mem0) ?_
    refine set_high c l5 fun σ6 l6 => ?_
    refine Thn_next ?_; refine WSs_nil ?_; refine hOf (by assumption) ?_; refine LoopPost_next ?_
    cases f with
    | zero => have := i.lo; have := i.hi; simp at big; lia
    | succ f =>
      refine ⟨f, Nat.lt_succ_self f, e.step cc, rfl, l6.congr rfl rfl rfl rfl, i.step hc, ?_, ?_, by show e.k + 1 + f ≤ _; lia⟩
      · show 16777216 < (2 * (e.high - cc) - 2 * (e.low - cc)) * 2 ^ f
        rw [show 2 * (e.high - cc) - 2 * (e.low - cc) = (e.high - e.low) * 2 by lia, Int.mul_assoc, Int.mul_comm 2, ← Int.pow_succ]
        exact big
      · rw [← hr]
        show _ = Enc.ren (f + 1) e
        unfold Enc.ren
        rw [hc]
        cases f <;> rfl
  · refine Thn_brk ?_; refine LoopPost_brk ?_; refine Thn_next ?_; refine WSs_nil ?_; refine hOf (by assumption) ?_
    refine fin _ ?_
    rw [← hr]
    have : Enc.ren f e = e := by
      cases f with
      | zero => rfl
      | succ f => unfold Enc.ren; rw [hn]
    rw [this]; exact l4
end Mine

-- part E15d
set_option linter.unusedVariables false
namespace Mine
open PySem PySem.W PyProof.Rows
theorem new_model {C : Cx} {A : Around} {σ : AH} {E : EX} {Q : V → AH → Prop} (c : Law C) (rm : Room A 2) (hq : Q (.ref (σ.length + 1)) (σ ++ [.ns (mns σ.length), .inst 171 σ.length, .mdict []])) : WC C A (.ref 171) [] σ Q E := by
  refine WC_new (fI := 147) c.K clsM (by kernel_rfl) (by kernel_rfl) fun xs => ?_
  have rm := rm.make (Cl := 171) (us := xs)
  refine WCc_def (pn := [Str.ofString "self"]) (ln := []) (gl := []) (dv := []) (ds := []) (c.K _ _ rfl) rfl (codeRec_of c.K (by kernel_rfl)) (by first | exact Room.dep0 (by assumption) | assumption | lia | exact Nat.le_of_ble_eq_true rfl) .nil rfl (fun x v h => c.glo x v ((show ∀ p ∈ ([] : List (Str × Value)), p ∈ lawGlo by decide +kernel) (x, v) h)) ?_ (by decide +kernel) (by decide +kernel) (by decide +kernel) (by decide +kernel) ?_
  · intro s xs hkp hl
    obtain ⟨x0, rfl⟩ := len1 hl
    first | exact BindsTo.of_eq rfl | exact BindsTo.of_defaults rfl (hkp _ _ (c.K _ _ rfl)) rfl rfl rfl
  intro env henv
  replace c := c.wg []
  show WSs (C.wg []) _ _ _ [(Str.ofString "self", some (.ref (σ.length + 1)))] _ _ _
  refine WSs_opqF fun _ _ _ => ?_
  refine WSs_cons ?_; refine WS_setattr ?_
  refine WE_dict0m ?_
  refine WE_ev (.name mem0) ?_
  refine set_inst (d := σ.length) (es := []) c.K clsM (by kernel_rfl) (gl_up (by simp)) (gl_up (gl_up (by simp))) (by simp) ?_
  refine Thn_next ?_; refine WSs_nil ?_; refine hOf (by assumption) ?_
  refine ⟨rfl, ?_⟩
  have e : (σ ++ [O.ns []] ++ [O.inst 171 σ.length] ++ [O.mdict []]).set σ.length (.ns (putNs (Str.ofString "counts") (V.ref (σ ++ [O.ns []] ++ [O.inst 171 σ.length]).length) [])) = σ ++ [.ns (mns σ.length), .inst 171 σ.length, .mdict []] := by
    simp [List.set_append, putNs, mns]
  rw [e]; exact hq
noncomputable def wJ (b : Nat) : AH := [.ns (wns b 0 16777216 0), .inst 213 b, .ns (mns (b + 2)), .inst 171 (b + 2), .mdict [], .list []]
theorem wJ_at {σ : AH} {i : Nat} {o : O} (h : (wJ σ.length)[i]? = some o) : (σ ++ wJ σ.length)[σ.length + i]? = some o := by
  rw [List.getElem?_append_right (by lia), Nat.add_sub_cancel_left]; exact h
theorem wr_new {σ : AH} : WrAt (σ ++ wJ σ.length) σ.length [] (enc0, cts0) := by
  refine ⟨⟨wJ_at (i := 0) rfl, wJ_at (i := 1) rfl, wJ_at (i := 5) rfl, Nat.le_refl _, fun _ _ _ _ => rfl⟩, ⟨wJ_at (i := 2) rfl, wJ_at (i := 3) rfl, wJ_at (i := 4) rfl, fun e he => (nomatch he), by simp, by simp, fun e he => (nomatch he), fun k _ => rfl, fun e he => (nomatch he)⟩, fun e he => (nomatch he)⟩
theorem new_writer {C : Cx} {A : Around} {σ : AH} {E : EX} {Q : V → AH → Prop} (c : Law C) (rm : Room A 4) (hq : Q (.ref (σ.length + 1)) (σ ++ wJ σ.length)) : WC C A (.ref 213) [] σ Q E := by
  refine WC_new (fI := 189) c.K clsW (by kernel_rfl) (by kernel_rfl) fun xs => ?_
  have rm := rm.make (Cl := 213) (us := xs)
  refine WCc_def (pn := [Str.ofString "self"]) (ln := []) (gl := [(Str.ofString "Model", Value.ref 171), (Str.ofString "TOP", Value.int 16777216 385)]) (dv := []) (ds := []) (c.K _ _ rfl) rfl (codeRec_of c.K (by kernel_rfl)) (by first | exact Room.dep0 (by assumption) | assumption | lia | exact Nat.le_of_ble_eq_true rfl) .nil rfl (fun x v h => c.glo x v ((show ∀ p ∈ ([(Str.ofString "Model", Value.ref 171), (Str.ofString "TOP", Value.int 16777216 385)] : List (Str × Value)), p ∈ lawGlo by decide +kernel) (x, v) h)) ?_ (by decide +kernel) (by decide +kernel) (by decide +kernel) (by decide +kernel) ?_
  · intro s xs hkp hl
    obtain ⟨x0, rfl⟩ := len1 hl
    first | exact BindsTo.of_eq rfl | exact BindsTo.of_defaults rfl (hkp _ _ (c.K _ _ rfl)) rfl rfl rfl
  intro env henv
  replace c := c.wg [(Str.ofString "Model", Value.ref 171), (Str.ofString "TOP", Value.int 16777216 385)]
  show WSs (C.wg [(Str.ofString "Model", Value.ref 171), (Str.ofString "TOP", Value.int 16777216 385)]) _ _ _ [(Str.ofString "self", some (.ref (σ.length + 1)))] _ _ _
  refine WSs_opqF fun _ _ _ => ?_
  have rm := rm.deep (env := env)
  have hl1 : (σ ++ [O.ns []] ++ [O.inst 213 σ.length]).length = σ.length + 2 := by simp
  refine WSs_cons ?_; refine WS_setattr ?_
  refine WE_call (C := C) mem0 c.c171 ?_
  refine WL_ev .nil ?_
  refine new_model c rm ?_
  rw [hl1]
  refine WE_ev (.name mem0) ?_
  have st : ∀ (es : List (Str × V)) (J : AH), (σ ++ ([O.ns es, O.inst 213 σ.length] ++ J))[σ.length]? = some (.ns es) ∧ (σ ++ ([O.ns es, O.inst 213 σ.length] ++ J))[σ.length + 1]? = some (.inst 213 σ.length) := fun es J => ⟨by simp, by rw [List.getElem?_append_right (by lia)]; simp⟩
  have ss : ∀ (es es' : List (Str × V)) (J : AH), (σ ++ ([O.ns es, O.inst 213 σ.length] ++ J)).set σ.length (.ns es') = σ ++ ([O.ns es', O.inst 213 σ.length] ++ J) := fun es es' J => by rw [List.set_append_right _ _ (Nat.le_refl _)]; simp
  have e0 : σ ++ [O.ns []] ++ [O.inst 213 σ.length] ++ [O.ns (mns (σ.length + 2)), O.inst 171 (σ.length + 2), O.mdict []] = σ ++ ([O.ns [], O.inst 213 σ.length] ++ [O.ns (mns (σ.length + 2)), O.inst 171 (σ.length + 2), O.mdict []]) := by simp
  rw [e0]
  refine set_inst (es := []) c.K clsW (by kernel_rfl) (st _ _).2 (st _ _).1 (by simp) ?_
  rw [ss]
  refine Thn_next ?_; refine WSs_cons ?_; refine WS_setattr ?_; refine WE_ev .int ?_; refine WE_ev (.name mem0) ?_
  refine set_inst c.K clsW (by kernel_rfl) (st _ _).2 (st _ _).1 (Nat.le_of_ble_eq_true rfl) ?_
  rw [ss]
  refine Thn_next ?_; refine WSs_cons ?_; refine WS_setattr ?_; refine WE_ev (.glob mem1) ?_; refine WE_ev (.name mem0) ?_
  refine set_inst c.K clsW (by kernel_rfl) (st _ _).2 (st _ _).1 (Nat.le_of_ble_eq_true rfl) ?_
  rw [ss]
  refine Thn_next ?_; refine WSs_cons ?_; refine WS_setattr ?_; refine WE_ev .int ?_; refine WE_ev (.name mem0) ?_
  refine set_inst c.K clsW (by kernel_rfl) (st _ _).2 (st _ _).1 (Nat.le_of_ble_eq_true rfl) ?_
  rw [ss]
  refine Thn_next ?_; refine WSs_cons ?_; refine WS_setattr ?_; refine WE_List ?_; refine WL_ev .nil ?_; refine szAnd ?_; refine WE_ev (.name mem0) ?_
  rw [List.append_assoc, List.append_assoc]
  refine set_inst c.K clsW (by kernel_rfl) (st _ _).2 (st _ _).1 (Nat.le_of_ble_eq_true rfl) ?_
  rw [ss]
  refine Thn_next ?_; refine WSs_nil ?_; refine hOf (by assumption) ?_
  refine ⟨rfl, ?_⟩
  have e9 : ∀ es, (putNs (Str.ofString "bits") (V.ref (σ.length + 5)) (putNs (Str.ofString "waiting") (V.int 0) (putNs (Str.ofString "high") (V.int 16777216) (putNs (Str.ofString "low") (V.int 0) (putNs (Str.ofString "model") (V.ref (σ.length + 2 + 1)) []))))) = es → es = wns σ.length 0 16777216 0 := fun es h => by rw [← h]; kernel_rfl
  have en : List.length (σ ++ ([O.ns (putNs (Str.ofString "waiting") (V.int 0) (putNs (Str.ofString "high") (V.int 16777216) (putNs (Str.ofString "low") (V.int 0) (putNs (Str.ofString "model") (V.ref (σ.length + 2 + 1)) [])))), O.inst 213 σ.length] ++ [O.ns (mns (σ.length + 2)), O.inst 171 (σ.length + 2), O.mdict []])) = σ.length + 5 := by simp
  rw [en, e9 _ rfl]
  exact hq
end Mine

-- part E15e
set_option linter.unusedVariables false
namespace Mine
open PySem PySem.W PyProof.Rows
theorem rng8 (n : Nat) : (Builtin.Range.rangeSize 0 n 8).toNat = (n + 7) / 8 := by
  unfold Builtin.Range.rangeSize
  rw [if_pos (by decide)]
  split <;> lia
theorem bv_take {r : List Int} {j : Nat} (h : j < r.length) : 2 * bv (r.take j) + r.getD j 0 = bv (r.take (j + 1)) := by
  rw [List.take_add_one, List.getElem?_eq_getElem h, bv_append]
  simp [bv, List.getD, h]
  lia
theorem fin_eq {e : Enc} : e.bits ++ [if e.low < 4194304 then (0 : Int) else 1] ++ List.replicate (e.wait + 1) (1 - (if e.low < 4194304 then (0 : Int) else 1)) = e.fin := by
  unfold Enc.fin
  split <;> rfl
theorem finish_spec {C : Cx} {A : Around} {σ : AH} {E : EX} {Q : V → AH → Prop} {b : Nat} {e : Enc} (c : Law C) (rm : Room A 2) (h : LAt σ σ b e) (i : EInv e) (hK : e.k ≤ 50000)
    (hq : ∀ σ', σ.length ≤ σ'.length → (∀ j, j < σ.length → j ≠ b → j ≠ b + 5 → σ'[j]? = σ[j]?) → Q (.bytes (byteArr (bytesOf e.fin))) σ') : WC C A (.ref 210) [.ref (b + 1)] σ Q E := by
  refine WC_def (pn := [Str.ofString "self"]) (ln := [Str.ofString "out", Str.ofString "at", Str.ofString "row", Str.ofString "value", Str.ofString "bit"]) (gl := [(Str.ofString "len", Value.builtin "len"), (Str.ofString "range", Value.type "range"), (Str.ofString "bytes", Value.type "bytes"), (Str.ofString "QUARTER", Value.int 4194304 391)]) (dv := []) (ds := []) (c.K _ _ rfl) rfl (codeRec_of c.K (by kernel_rfl)) (by first | exact Room.dep0 (by assumption) | assumption | lia | exact Nat.le_of_ble_eq_true rfl) .nil rfl (fun x v h => c.glo x v ((show ∀ p ∈ ([(Str.ofString "len", Value.builtin "len"), (Str.ofString "range", Value.type "range"), (Str.ofString "bytes", Value.type "bytes"), (Str.ofString "QUARTER", Value.int 4194304 391)] : List (Str × Value)), p ∈ lawGlo by decide +kernel) (x, v) h)) ?_ (by decide +kernel) (by decide +kernel) (by decide +kernel) (by decide +kernel) ?_
  · intro s xs hkp hl
    obtain ⟨x0, rfl⟩ := len1 hl
    first | exact BindsTo.of_eq rfl | exact BindsTo.of_defaults rfl (hkp _ _ (c.K _ _ rfl)) rfl rfl rfl
  intro env henv
  replace c := c.wg [(Str.ofString "len", Value.builtin "len"), (Str.ofString "range", Value.type "range"), (Str.ofString "bytes", Value.type "bytes"), (Str.ofString "QUARTER", Value.int 4194304 391)]
  show WSs (C.wg [(Str.ofString "len", Value.builtin "len"), (Str.ofString "range", Value.type "range"), (Str.ofString "bytes", Value.type "bytes"), (Str.ofString "QUARTER", Value.int 4194304 391)]) _ _ _ [(Str.ofString "self", some (.ref (b + 1))), (Str.ofString "out", none), (Str.ofString "at", none), (Str.ofString "row", none), (Str.ofString "value", none), (Str.ofString "bit", none)] _ _ _
  refine WSs_opqF fun _ _ _ => ?_
  have rm := rm.deep (env := env)
  have ik := i.k
  refine WSs_cons ?_; refine WS_setattr ?_; refine WE_BinR .int ?_; refine WE_attrN mem0 ?_
  refine w_wait c h ?_
  refine add_ii ?_; refine WE_ev (.name mem0) ?_
  refine set_wait (x := e.wait + 1) c h fun σ0 l0 => ?_
  refine Thn_next ?_; refine WSs_expr ?_
  refine WE_meth ?_
  refine WE_ev (.name mem0) ?_
  refine WM_inst (f := 196) c.K clsW (by kernel_rfl) (by kernel_rfl) l0.inst l0.ns (by kernel_rfl) ⟨callable_K c.K (by kernel_rfl), ?_⟩
  refine WL_cons ?_; refine WE_IfExp ?_; refine WB_CmpR (.glob mem3) ?_; refine WE_attrN mem0 ?_
  refine w_low c l0 ?_
  refine lt_ii ?_; refine WTr_bool ?_
  refine ite_WE (x := .int (if e.low < 4194304 then 0 else 1)) (fun hb => ?_) (fun hb => ?_) ?_
  · have hb' : e.low < 4194304 := of_decide_eq_true hb
    refine WE_ev .int ?_
    exact ⟨by rw [if_pos hb'], rfl⟩
  · have hb' : ¬ e.low < 4194304 := of_decide_eq_false hb
    refine WE_ev .int ?_
    exact ⟨by rw [if_neg hb'], rfl⟩
  refine WL_ev .nil ?_
  refine put1_spec c rm.le l0 (by show e.bits.length + (e.wait + 1) ≤ _; lia) fun σ1 l1 => ?_
  have lb := l1.bits
  have fe := fin_eq (e := e)
  dsimp only at lb
  rw [fe] at lb
  have hF := fin_bits i
  have hFl : e.fin.length ≤ 60000 := by rw [← fe]; simp; lia
  have l2 : LAt σ σ1 b { e with bits := e.fin, wait := 0 } := ⟨l1.ns, l1.inst, lb, l1.len, l1.same⟩
  clear l1 lb l0
  generalize e.fin = F at *
  refine WSs_asgW ?_; refine WE_List ?_; refine WL_ev .nil ?_; refine szAnd ?_; refine exUp up1 ?_; refine WSs_cons ?_
  refine WS_for (WItr_range rm.han mem1 ?_)
  refine WL_consE .int ?_; refine WL_cons ?_
  refine WE_call (C := C) mem0 callable_builtin ?_
  refine WL_cons ?_; refine WE_attrN mem0 ?_
  refine w_bits c l2.up ?_
  refine WL_ev .nil ?_
  refine WC_lenI (show ObjAt _ _ (.ref (b + 5)) _ from l2.up.bits) rfl (by show F.length ≤ _; lia) ?_
  refine WL_consE .int ?_; refine WL_ev .nil ?_
  refine ⟨0, (F.length : Nat), 8, rfl, by decide, by decide, by lia, by decide, ?_⟩
  rw [rng8]
  refine ⟨fun i ρ' σ' => Ex5 fun J a1 a2 a3 a4 => (σ' = σ1 ++ [.list ((List.range i).map fun j => .int (byteAt F j))] ++ J) ∧ (ρ' = ([(Str.ofString "self", (some (V.ref (b + 1)))), (Str.ofString "out", (some (.ref σ1.length))), (Str.ofString "at", a1), (Str.ofString "row", a2), (Str.ofString "value", a3), (Str.ofString "bit", a4)] : Loc)), ⟨[], _, _, _, _, by simp, rfl⟩, ?_, ?_⟩
  · rintro i ρ' σ' hi ⟨J, a1, a2, a3, a4, rfl, rfl⟩
    refine ⟨trivial, ?_⟩
    have l3 : LAt σ (σ1 ++ [O.list ((List.range i).map fun j => V.int (byteAt F j))] ++ J) b { e with bits := F, wait := 0 } := l2.up.up
    have eo : (0 : Int) + (i : Int) * 8 = ((8 * i : Nat) : Int) := by lia
    show WAs _ _ _ _ (V.int (0 + (i : Int) * 8)) _ _ _ _
    rw [eo]
    have hcl := chunk_len F i
    apply WAs_name
    focus exact up2
    refine WSs_cons ?_
    refine WS_assign ?_
    refine WE_slice ?_
    refine WE_attrN mem0 ?_
    refine w_bits c l3 ?_
    refine WO_some ?_; refine WE_ev (.name mem2) ?_; refine exInt ?_; refine WO_some ?_; refine WE_BinR .int ?_; refine WE_ev (.name mem2) ?_; refine add_ii ?_; refine exInt ?_; refine WO_none ?_
    refine ⟨F.map .int, l3.bits, by simp, by have e3 : sizeLine = 16777216 := rfl; rw [List.length_map]; lia, ?_⟩
    have ep : pickV (F.map V.int) (some ((8 * i : Nat) : Int)) (some (((8 * i : Nat) : Int) + 8)) none = (chunk F i).map V.int := by
      rw [show (((8 * i : Nat) : Int) + 8) = ((8 * i + 8 : Nat) : Int) by lia, pickV_mid2 _ (by lia), Nat.add_sub_cancel_left, ← List.map_drop, ← List.map_take]
      rfl
    rw [ep]
    refine exUp up3 ?_; refine Thn_next ?_; refine WSs_opq fun _ _ _ => ?_; refine WSs_asgW ?_; refine WE_BinL (.name mem3) ?_; refine WE_BinOp ?_; refine WE_List ?_; refine WL_consE .int ?_; refine WL_ev .nil ?_; refine szAnd ?_; refine WE_BinL .int ?_
    refine WE_call (C := C) mem0 callable_builtin ?_
    refine WL_consE (.name mem3) ?_; refine WL_ev .nil ?_
    refine WC_lenI (ObjAt.up (ObjAt.new (C := C) rfl)) rfl (by lia) ?_
    refine sub_ii ?_
    refine mul_li (x := (8 : Int) - (chunk F i).length) (xs := [.int 0]) (ObjAt.new (C := C) rfl) (by lia) (by lia) (by simp; lia) ?_
    rw [rep_one, show ((8 : Int) - (chunk F i).length).toNat = 8 - (chunk F i).length by lia]
    refine add_ll (ObjAt.up (C := C) (ObjAt.up (ObjAt.new rfl))) (ObjAt.new (C := C) rfl) (by simp; lia) ?_
    have ea : (chunk F i).map V.int ++ List.replicate (8 - (chunk F i).length) (V.int 0) = (pad8 (chunk F i)).map V.int := by simp [pad8]
    rw [ea]
    have hpl := pad8_len hcl
    obtain ⟨J2, hJ2⟩ : ∃ J2, σ1 ++ [O.list ((List.range i).map fun j => V.int (byteAt F j))] ++ J ++ [O.list ((chunk F i).map V.int)] ++ [O.list [V.int 0]] ++ [O.list (List.replicate (8 - (chunk F i).length) (V.int 0))] = σ1 ++ [O.list ((List.range i).map fun j => V.int (byteAt F j))] ++ J2 := ⟨J ++ [O.list ((chunk F i).map V.int)] ++ [O.list [V.int 0]] ++ [O.list (List.replicate (8 - (chunk F i).length) (V.int 0))], by simp⟩
    rw [hJ2]
    refine exUp up3 ?_; refine WSs_asgW ?_; refine WE_ev .int ?_; refine exUp up4 ?_; refine WSs_cons ?_
    refine WS_for (WItr_of ?_)
    refine WE_ev (.name mem3) ?_
    refine ⟨_, _, _, Itb_list rm.han (ObjAt.new (C := C) rfl), ?_⟩
    refine ⟨fun j ρ' σ' => Ex1 fun a4 => (σ' = σ1 ++ [.list ((List.range i).map fun j => .int (byteAt F j))] ++ J2 ++ [O.list ((pad8 (chunk F i)).map V.int)]) ∧ (ρ' = ([(Str.ofString "self", (some (V.ref (b + 1)))), (Str.ofString "out", (some (.ref σ1.length))), (Str.ofString "at", (some (.int (8 * i : Nat)))), (Str.ofString "row", (some (.ref (σ1 ++ [O.list ((List.range i).map fun j => V.int (byteAt F j))] ++ J2).length))), (Str.ofString "value", (some (.int (bv ((pad8 (chunk F i)).take j))))), (Str.ofString "bit", a4)] : Loc)), ⟨_, rfl, rfl⟩, ?_, ?_⟩
    · rintro j ρ' σ' hj ⟨a4, rfl, rfl⟩
      rw [List.length_map] at hj
      refine ⟨ObjAt.new (C := C) rfl, ?_⟩
      rw [getD_v _ hj]
      refine WAs_opq fun _ _ _ => ?_; refine WAs_name up5 ?_; refine WSs_asgW ?_; refine WE_BinR (.name mem5) ?_; refine WE_BinR (.name mem4) ?_; refine WE_ev .int ?_
      refine mul_ii (mul_small (by lia) (by lia)) ?_
      refine add_ii ?_; refine exUp up4 ?_; refine WSs_nil ?_; refine hOf (by assumption) ?_; refine LoopPost_next ?_
      exact ⟨_, rfl, by rw [bv_take hj]⟩
    · rintro ρ' σ' ⟨a4, rfl, rfl⟩
      refine ⟨ObjAt.new (C := C) rfl, ?_⟩
      rw [List.length_map, List.take_length]
      refine Thn_next ?_; refine WSs_expr ?_
      refine WE_meth ?_
      refine WE_ev (.name mem1) ?_
      rw [List.append_assoc _ J2]
      refine WM_append (get_mid rfl) ⟨callable_builtin, ?_⟩
      refine WL_consE (.name mem4) ?_; refine WL_ev .nil ?_
      refine WC_appE (n := 60000) (get_mid rfl) (by simp; lia) (by decide) ?_
      rw [set_mid rfl]
      refine WSs_nil ?_; refine hOf (by assumption) ?_; refine LoopPost_next ?_
      refine ⟨J2 ++ [O.list ((pad8 (chunk F i)).map V.int)], _, _, _, _, ?_, rfl⟩
      rw [List.range_succ, List.map_append]
      rfl
  · rintro ρ' σ' ⟨J, a1, a2, a3, a4, rfl, rfl⟩
    refine ⟨trivial, ?_⟩
    refine Thn_next ?_; refine WSs_ret ?_
    refine WE_call (C := C) mem2 callable_type ?_
    refine WL_consE (.name mem1) ?_; refine WL_ev .nil ?_
    have eb : (List.range ((F.length + 7) / 8)).map (fun j => V.int (byteAt F j)) = (bytesOf F).map V.int := by rw [bytesOf, List.map_map]; rfl
    rw [eb]
    refine WC_bytes rm.han (show ObjAt C _ (.ref σ1.length) _ from get_mid rfl) (bytesOf_range hF) (by simp [bytesOf]; lia) ?_
    refine hOf (by assumption) ?_
    have l3 : LAt σ (σ1 ++ [O.list ((bytesOf F).map V.int)] ++ J) b { e with bits := F, wait := 0 } := l2.up.up
    exact hq _ l3.len l3.same
end Mine

-- part E15f
set_option linter.unusedVariables false
namespace Mine
open PySem PySem.W PyProof.Rows
noncomputable def rns (b : Nat) (bs : List Int) (d : Dec) : List (Str × V) := [(Str.ofString "model", .ref (b + 3)), (Str.ofString "data", .bytes (byteArr bs)), (Str.ofString "at", .int d.at'), (Str.ofString "low", .int d.low), (Str.ofString "high", .int d.high), (Str.ofString "value", .int d.value)]
theorem rns_at {b : Nat} {bs : List Int} {d : Dec} {x : Nat} : putNs (Str.ofString "at") (.int x) (rns b bs d) = rns b bs { d with at' := x } := by kernel_rfl
theorem rns_low {b : Nat} {bs : List Int} {d : Dec} {x : Int} : putNs (Str.ofString "low") (.int x) (rns b bs d) = rns b bs { d with low := x } := by kernel_rfl
theorem rns_high {b : Nat} {bs : List Int} {d : Dec} {x : Int} : putNs (Str.ofString "high") (.int x) (rns b bs d) = rns b bs { d with high := x } := by kernel_rfl
theorem rns_value {b : Nat} {bs : List Int} {d : Dec} {x : Int} : putNs (Str.ofString "value") (.int x) (rns b bs d) = rns b bs { d with value := x } := by kernel_rfl
theorem rns_len {b : Nat} {bs : List Int} {d : Dec} : (rns b bs d).length ≤ sizeLine := Nat.le_of_ble_eq_true rfl
structure RAt (σ1 σ' : AH) (b : Nat) (bs : List Int) (d : Dec) : Prop where
  ns : σ'[b]? = some (.ns (rns b bs d))
  inst : σ'[b + 1]? = some (.inst 248 b)
  len : σ1.length ≤ σ'.length
  same : ∀ i, i < σ1.length → i ≠ b → σ'[i]? = σ1[i]?
section
variable {C : Cx} {A : Around} {σ σ1 : AH} {E : EX} {Q : V → AH → Prop} {b : Nat} {bs : List Int} {d : Dec}
theorem r_model (c : Law C) (h : RAt σ1 σ b bs d) (hq : Q (.ref (b + 3)) σ) : WAt C A (.ref (b + 1)) (Str.ofString "model") σ Q E := at_inst c.K clsR (by kernel_rfl) h.inst h.ns (by kernel_rfl) rfl hq
theorem r_data (c : Law C) (h : RAt σ1 σ b bs d) (hq : Q (.bytes (byteArr bs)) σ) : WAt C A (.ref (b + 1)) (Str.ofString "data") σ Q E := at_inst c.K clsR (by kernel_rfl) h.inst h.ns (by kernel_rfl) rfl hq
theorem r_at (c : Law C) (h : RAt σ1 σ b bs d) (hq : Q (.int d.at') σ) : WAt C A (.ref (b + 1)) (Str.ofString "at") σ Q E := at_inst c.K clsR (by kernel_rfl) h.inst h.ns (by kernel_rfl) rfl hq
theorem r_low (c : Law C) (h : RAt σ1 σ b bs d) (hq : Q (.int d.low) σ) : WAt C A (.ref (b + 1)) (Str.ofString "low") σ Q E := at_inst c.K clsR (by kernel_rfl) h.inst h.ns (by kernel_rfl) rfl hq
theorem r_high (c : Law C) (h : RAt σ1 σ b bs d) (hq : Q (.int d.high) σ) : WAt C A (.ref (b + 1)) (Str.ofString "high") σ Q E := at_inst c.K clsR (by kernel_rfl) h.inst h.ns (by kernel_rfl) rfl hq
theorem r_value (c : Law C) (h : RAt σ1 σ b bs d) (hq : Q (.int d.value) σ) : WAt C A (.ref (b + 1)) (Str.ofString "value") σ Q E := at_inst c.K clsR (by kernel_rfl) h.inst h.ns (by kernel_rfl) rfl hq
theorem RAt.put {σ' : AH} (h : RAt σ1 σ' b bs d) (d' : Dec) : RAt σ1 (σ'.set b (.ns (rns b bs d'))) b bs d' := by
  have hl := (List.getElem?_eq_some_iff.mp h.ns).1
  refine ⟨List.getElem?_set_self hl, ?_, by rw [List.length_set]; exact h.len, fun i hi h1 => ?_⟩
  · rw [List.getElem?_set_ne (by lia)]; exact h.inst
  · rw [List.getElem?_set_ne (Ne.symm h1)]; exact h.same i hi h1
theorem rset_at (c : Law C) (h : RAt σ1 σ b bs d) {x : Nat} {Q : AH → Prop} (hq : ∀ σ', RAt σ1 σ' b bs { d with at' := x } → Q σ') : WSt C A (.ref (b + 1)) (Str.ofString "at") (.int x) σ Q E := by
  refine set_inst c.K clsR (by kernel_rfl) h.inst h.ns rns_len ?_
  rw [rns_at]; exact hq _ (h.put _)
theorem rset_low (c : Law C) (h : RAt σ1 σ b bs d) {x : Int} {Q : AH → Prop} (hq : ∀ σ', RAt σ1 σ' b bs { d with low := x } → Q σ') : WSt C A (.ref (b + 1)) (Str.ofString "low") (.int x) σ Q E := by
  refine set_inst c.K clsR (by kernel_rfl) h.inst h.ns rns_len ?_
  rw [rns_low]; exact hq _ (h.put _)
theorem rset_high (c : Law C) (h : RAt σ1 σ b bs d) {x : Int} {Q : AH → Prop} (hq : ∀ σ', RAt σ1 σ' b bs { d with high := x } → Q σ') : WSt C A (.ref (b + 1)) (Str.ofString "high") (.int x) σ Q E := by
  refine set_inst c.K clsR (by kernel_rfl) h.inst h.ns rns_len ?_
  rw [rns_high]; exact hq _ (h.put _)
theorem rset_value (c : Law C) (h : RAt σ1 σ b bs d) {x : Int} {Q : AH → Prop} (hq : ∀ σ', RAt σ1 σ' b bs { d with value := x } → Q σ') : WSt C A (.ref (b + 1)) (Str.ofString "value") (.int x) σ Q E := by
  refine set_inst c.K clsR (by kernel_rfl) h.inst h.ns rns_len ?_
  rw [rns_value]; exact hq _ (h.put _)
end
theorem bit_spec {C : Cx} {A : Around} {σ σ1 : AH} {E : EX} {Q : V → AH → Prop} {b : Nat} {l : List Int} {d : Dec} (c : Law C) (rm : Room A 1) (h : RAt σ1 σ b (bytesOf l) d) (hl : IsBits l) (hz : l.length ≤ 90000)
    (hq : ∀ σ', RAt σ1 σ' b (bytesOf l) { d with at' := d.at' + 1 } → Q (.int (strm l d.at')) σ') : WC C A (.ref 238) [.ref (b + 1)] σ Q E := by
  refine WC_def (pn := [Str.ofString "self"]) (ln := [Str.ofString "place", Str.ofString "out"]) (gl := [(Str.ofString "len", Value.builtin "len")]) (dv := []) (ds := []) (c.K _ _ rfl) rfl (codeRec_of c.K (by kernel_rfl)) (by first | exact Room.dep0 (by assumption) | assumption | lia | exact Nat.le_of_ble_eq_true rfl) .nil rfl (fun x v h => c.glo x v ((show ∀ p ∈ ([(Str.ofString "len", Value.builtin "len")] : List (Str × Value)), p ∈ lawGlo by decide +kernel) (x, v) h)) ?_ (by decide +kernel) (by decide +kernel) (by decide +kernel) (by decide +kernel) ?_
  · intro s xs hkp hl
    obtain ⟨x0, rfl⟩ := len1 hl
    first | exact BindsTo.of_eq rfl | exact BindsTo.of_defaults rfl (hkp _ _ (c.K _ _ rfl)) rfl rfl rfl
  intro env henv
  replace c := c.wg [(Str.ofString "len", Value.builtin "len")]
  show WSs (C.wg [(Str.ofString "len", Value.builtin "len")]) _ _ _ [(Str.ofString "self", some (.ref (b + 1))), (Str.ofString "place", none), (Str.ofString "out", none)] _ _ _
  refine WSs_opqF fun _ _ _ => ?_
  have rm := rm.deep (env := env)
  have e1 : ((d.at' : Int)).fdiv 8 = ((d.at' / 8 : Nat) : Int) := by rw [Int.fdiv_eq_ediv_of_nonneg _ (by decide)]; lia
  have e2 : ((d.at' : Int)).fmod 8 = ((d.at' % 8 : Nat) : Int) := by rw [Int.fmod_eq_emod_of_nonneg _ (by decide)]; lia
  have hbl : (bytesOf l).length ≤ 100000 := by simp [bytesOf]; lia
  refine WSs_asgW ?_; refine WE_BinR .int ?_; refine WE_attrN mem0 ?_
  refine r_at c h ?_
  refine fdiv_lit (by decide) ?_; refine exUp up1 ?_; refine WSs_asgW ?_; refine WE_ev .int ?_; refine exUp up2 ?_; refine WSs_if ?_; refine WB_Compare1 ?_; refine WE_ev (.name mem1) ?_
  rw [e1]
  refine WE_call (C := C) mem0 callable_builtin ?_
  refine WL_cons ?_; refine WE_attrN mem0 ?_
  refine r_data c h ?_
  refine WL_ev .nil ?_
  refine WC_lenB hbl ?_
  refine lt_ii ?_; refine WTr_bool ?_
  refine ite_b (fun hb => ?_) fun hb => ?_
  · have hb' : d.at' / 8 < (bytesOf l).length := by have := of_decide_eq_true hb; lia
    refine WSs_asgW ?_; refine WE_BinR .int ?_; refine WE_BinOp ?_; refine WE_SubR (.name mem1) ?_; refine WE_attrN mem0 ?_
    refine r_data c h ?_
    refine item_bytes hbl hb' (bytesOf_range hl) ?_
    refine WE_BinL .int ?_; refine WE_BinR .int ?_; refine WE_attrN mem0 ?_
    refine r_at c h ?_
    refine mod_ii (by decide) ?_; refine sub_ii ?_
    rw [e2]
    refine shr_ii (by lia) ?_
    rw [show ((7 : Int) - ((d.at' % 8 : Nat) : Int)).toNat = 7 - d.at' % 8 by lia]
    refine and_ii ?_
    rw [bit_at hl d.at' hb']
    refine exUp up2 ?_; refine WSs_nil ?_; refine Thn_next ?_; refine WSs_cons ?_; refine WS_setattr ?_; refine WE_BinR .int ?_; refine WE_attrN mem0 ?_
    refine r_at c h ?_
    refine add_ii ?_; refine WE_ev (.name mem0) ?_
    refine rset_at (x := d.at' + 1) c h fun σ' h' => ?_
    refine Thn_next ?_; refine WSs_retE (.name mem2) ?_; refine hOf (by assumption) ?_
    exact hq σ' h'
  · have hb' : ¬ d.at' / 8 < (bytesOf l).length := by have := of_decide_eq_false hb; lia
    refine WSs_nil ?_; refine Thn_next ?_; refine WSs_cons ?_; refine WS_setattr ?_; refine WE_BinR .int ?_; refine WE_attrN mem0 ?_
    refine r_at c h ?_
    refine add_ii ?_; refine WE_ev (.name mem0) ?_
    refine rset_at (x := d.at' + 1) c h fun σ' h' => ?_
    refine Thn_next ?_; refine WSs_retE (.name mem2) ?_; refine hOf (by assumption) ?_
    have := hq σ' h'
    rw [past_end hb'] at this
    exact this
noncomputable def rJ (b : Nat) (bs : List Int) (d : Dec) : AH := [.ns (rns b bs d), .inst 248 b, .ns (mns (b + 2)), .inst 171 (b + 2), .mdict []]
theorem rJ_at {σ : AH} {bs : List Int} {d : Dec} {i : Nat} {o : O} (h : (rJ σ.length bs d)[i]? = some o) : (σ ++ rJ σ.length bs d)[σ.length + i]? = some o := by
  rw [List.getElem?_append_right (by lia), Nat.add_sub_cancel_left]; exact h
theorem new_reader {C : Cx} {A : Around} {σ : AH} {E : EX} {Q : V → AH → Prop} {l : List Int} (c : Law C) (rm : Room A 4) (hl : IsBits l) (hz : l.length ≤ 90000)
    (hq : ∀ σ', RAt (σ ++ rJ σ.length (bytesOf l) ⟨0, 16777216, 0, 0⟩) σ' σ.length (bytesOf l) ⟨0, 16777216, sv (strm l) 24, 24⟩ → Q (.ref (σ.length + 1)) σ') : WC C A (.ref 248) [.bytes (byteArr (bytesOf l))] σ Q E := by
  refine WC_new (fI := 231) c.K clsR (by kernel_rfl) (by kernel_rfl) fun xs => ?_
  have rm := rm.make (Cl := 248) (us := xs)
  refine WCc_def (pn := [Str.ofString "self", Str.ofString "data"]) (ln := [Str.ofString "k"]) (gl := [(Str.ofString "Model", Value.ref 171), (Str.ofString "TOP", Value.int 16777216 385), (Str.ofString "range", Value.type "range")]) (dv := []) (ds := []) (c.K _ _ rfl) rfl (codeRec_of c.K (by kernel_rfl)) (by first | exact Room.dep0 (by assumption) | assumption | lia | exact Nat.le_of_ble_eq_true rfl) .nil rfl (fun x v h => c.glo x v ((show ∀ p ∈ ([(Str.ofString "Model", Value.ref 171), (Str.ofString "TOP", Value.int 16777216 385), (Str.ofString "range", Value.type "range")] : List (Str × Value)), p ∈ lawGlo by decide +kernel) (x, v) h)) ?_ (by decide +kernel) (by decide +kernel) (by decide +kernel) (by decide +kernel) ?_
  · intro s xs hkp hl
    obtain ⟨x0, x1, rfl⟩ := len2 hl
    first | exact BindsTo.of_eq rfl | exact BindsTo.of_defaults rfl (hkp _ _ (c.K _ _ rfl)) rfl rfl rfl
  intro env henv
  replace c := c.wg [(Str.ofString "Model", Value.ref 171), (Str.ofString "TOP", Value.int 16777216 385), (Str.ofString "range", Value.type "range")]
  show WSs (C.wg [(Str.ofString "Model", Value.ref 171), (Str.ofString "TOP", Value.int 16777216 385), (Str.ofString "range", Value.type "range")]) _ _ _ [(Str.ofString "self", some (.ref (σ.length + 1))), (Str.ofString "data", some (.bytes (byteArr (bytesOf l)))), (Str.ofString "k", none)] _ _ _
  refine WSs_opqF fun _ _ _ => ?_
  have rm := rm.deep (env := env)
  have hl1 : (σ ++ [O.ns []] ++ [O.inst 248 σ.length]).length = σ.length + 2 := by simp
  refine WSs_cons ?_; refine WS_setattr ?_
  refine WE_call (C := C) mem0 c.c171 ?_
  refine WL_ev .nil ?_
  refine new_model c rm ?_
  rw [hl1]
  refine WE_ev (.name mem0) ?_
  have st : ∀ (es : List (Str × V)) (J : AH), (σ ++ ([O.ns es, O.inst 248 σ.length] ++ J))[σ.length]? = some (.ns es) ∧ (σ ++ ([O.ns es, O.inst 248 σ.length] ++ J))[σ.length + 1]? = some (.inst 248 σ.length) := fun es J => ⟨by simp, by rw [List.getElem?_append_right (by lia)]; simp⟩
  have ss : ∀ (es es' : List (Str × V)) (J : AH), (σ ++ ([O.ns es, O.inst 248 σ.length] ++ J)).set σ.length (.ns es') = σ ++ ([O.ns es', O.inst 248 σ.length] ++ J) := fun es es' J => by rw [List.set_append_right _ _ (Nat.le_refl _)]; simp
  have e0 : σ ++ [O.ns []] ++ [O.inst 248 σ.length] ++ [O.ns (mns (σ.length + 2)), O.inst 171 (σ.length + 2), O.mdict []] = σ ++ ([O.ns [], O.inst 248 σ.length] ++ [O.ns (mns (σ.length + 2)), O.inst 171 (σ.length + 2), O.mdict []]) := by simp
  rw [e0]
  refine set_inst (es := []) c.K clsR (by kernel_rfl) (st _ _).2 (st _ _).1 (by simp) ?_
  rw [ss]
  refine Thn_next ?_; refine WSs_cons ?_; refine WS_setattr ?_; refine WE_ev (.name mem1) ?_; refine WE_ev (.name mem0) ?_
  refine set_inst c.K clsR (by kernel_rfl) (st _ _).2 (st _ _).1 (Nat.le_of_ble_eq_true rfl) ?_
  rw [ss]
  refine Thn_next ?_; refine WSs_cons ?_; refine WS_setattr ?_; refine WE_ev .int ?_; refine WE_ev (.name mem0) ?_
  refine set_inst c.K clsR (by kernel_rfl) (st _ _).2 (st _ _).1 (Nat.le_of_ble_eq_true rfl) ?_
  rw [ss]
  refine Thn_next ?_; refine WSs_cons ?_; refine WS_setattr ?_; refine WE_ev .int ?_; refine WE_ev (.name mem0) ?_
  refine set_inst c.K clsR (by kernel_rfl) (st _ _).2 (st _ _).1 (Nat.le_of_ble_eq_true rfl) ?_
  rw [ss]
  refine Thn_next ?_; refine WSs_cons ?_; refine WS_setattr ?_; refine WE_ev (.glob mem1) ?_; refine WE_ev (.name mem0) ?_
  refine set_inst c.K clsR (by kernel_rfl) (st _ _).2 (st _ _).1 (Nat.le_of_ble_eq_true rfl) ?_
  rw [ss]
  refine Thn_next ?_; refine WSs_cons ?_; refine WS_setattr ?_; refine WE_ev .int ?_; refine WE_ev (.name mem0) ?_
  refine set_inst c.K clsR (by kernel_rfl) (st _ _).2 (st _ _).1 (Nat.le_of_ble_eq_true rfl) ?_
  rw [ss]
  have e9 : ∀ es, (putNs (Str.ofString "value") (V.int 0) (putNs (Str.ofString "high") (V.int 16777216) (putNs (Str.ofString "low") (V.int 0) (putNs (Str.ofString "at") (V.int 0) (putNs (Str.ofString "data") (V.bytes (byteArr (bytesOf l))) (putNs (Str.ofString "model") (V.ref (σ.length + 2 + 1)) [])))))) = es → es = rns σ.length (bytesOf l) ⟨0, 16777216, 0, 0⟩ := fun es h => by rw [← h]; kernel_rfl
  rw [e9 _ rfl]
  have e8 : σ ++ ([O.ns (rns σ.length (bytesOf l) ⟨0, 16777216, 0, 0⟩), O.inst 248 σ.length] ++ [O.ns (mns (σ.length + 2)), O.inst 171 (σ.length + 2), O.mdict []]) = σ ++ rJ σ.length (bytesOf l) ⟨0, 16777216, 0, 0⟩ := rfl
  rw [e8]
  have r0 : RAt (σ ++ rJ σ.length (bytesOf l) ⟨0, 16777216, 0, 0⟩) (σ ++ rJ σ.length (bytesOf l) ⟨0, 16777216, 0, 0⟩) σ.length (bytesOf l) ⟨0, 16777216, 0, 0⟩ := ⟨rJ_at (i := 0) rfl, rJ_at (i := 1) rfl, Nat.le_refl _, fun _ _ _ => rfl⟩
  generalize σ ++ rJ σ.length (bytesOf l) ⟨0, 16777216, 0, 0⟩ = σ2 at *
  refine Thn_next ?_; refine WSs_cons ?_
  refine WS_for (WItr_rng rm.han mem2 ?_)
  refine WL_consE .int ?_; refine WL_ev .nil ?_
  refine exNat (n := 24) ⟨by lia, ?_⟩
  refine ⟨fun i ρ' σ' => Ex1 fun a1 => (ρ' = ([(Str.ofString "self", (some (V.ref (σ.length + 1)))), (Str.ofString "data", (some (.bytes (byteArr (bytesOf l))))), (Str.ofString "k", a1)] : Loc)) ∧ (RAt σ2 σ' σ.length (bytesOf l) ⟨0, 16777216, sv (strm l) i, i⟩), ⟨_, rfl, r0⟩, ?_, ?_⟩
  · rintro i ρ' σ' hi ⟨a1, rfl, r⟩
    refine ⟨trivial, ?_⟩
    refine WAs_opq fun _ _ _ => ?_; refine WAs_name up2 ?_; refine WSs_cons ?_; refine WS_setattr ?_; refine WE_BinOp ?_; refine WE_BinL .int ?_; refine WE_attrN mem0 ?_
    refine r_value c r ?_
    refine mul_ii (mul_small (by lia) (by lia)) ?_
    refine WE_meth ?_
    refine WE_ev (.name mem0) ?_
    refine WM_inst (f := 238) c.K clsR (by kernel_rfl) (by kernel_rfl) r.inst r.ns (by kernel_rfl) ⟨callable_K c.K (by kernel_rfl), ?_⟩
    refine WL_ev .nil ?_
    refine bit_spec c rm.le r hl hz fun σ3 r3 => ?_
    refine add_ii ?_; refine WE_ev (.name mem0) ?_
    refine rset_value c r3 fun σ4 r4 => ?_
    refine Thn_next ?_; refine WSs_nil ?_; refine hOf (by assumption) ?_; refine LoopPost_next ?_
    exact ⟨_, rfl, r4⟩
  · rintro ρ' σ' ⟨a1, rfl, r⟩
    refine ⟨trivial, ?_⟩
    refine Thn_next ?_; refine WSs_nil ?_; refine hOf (by assumption) ?_
    exact ⟨rfl, hq σ' r⟩
end Mine

-- part E15g
set_option linter.unusedVariables false
namespace Mine
open PySem PySem.W PyProof.Rows
structure RrAt (σ : AH) (b : Nat) (bs : List Int) (rs : RW) (d : Dec) (M : Cts) : Prop where
  r : RAt σ σ b bs d
  mod : MdAt σ (b + 2) rs M
structure RExt (σ σ' : AH) (b : Nat) (rs rs' : RW) : Prop where
  len : σ.length ≤ σ'.length
  same : ∀ i, i < σ.length → i ≠ b → i ≠ b + 4 → (∀ e ∈ rs, i ≠ e.2.2) → σ'[i]? = σ[i]?
  new : ∀ e ∈ rs', e ∈ rs ∨ σ.length ≤ e.2.2
  cnt : rs'.length ≤ rs.length + 2
theorem RAt.mod {σ1 σ' : AH} {b : Nat} {bs : List Int} {d d1 : Dec} {rs : RW} {M : Cts} (h : RAt σ1 σ' b bs d) (h1 : RAt σ1 σ1 b bs d1) (m : MdAt σ1 (b + 2) rs M) : MdAt σ' (b + 2) rs M := by
  have lt : ∀ {i : Nat} {o : O}, σ1[i]? = some o → i < σ1.length := fun h => (List.getElem?_eq_some_iff.mp h).1
  refine m.frame (h.same _ (lt m.ns) (by lia)) (h.same _ (lt m.inst) (by lia)) (h.same _ (lt m.dict) (by lia)) (fun e he => h.same _ (lt (m.rows e he)) ?_) fun i xs hi => ?_
  · have := m.pos e he; lia
  · rw [h.same i (lt hi) (fun q => by rw [q, h1.ns] at hi; cases hi)]; exact hi
theorem MExt.r {σ σ' : AH} {b : Nat} {bs : List Int} {d : Dec} {rs rs' : RW} {M : Cts} (x : MExt σ σ' (b + 2) rs rs') (h : RAt σ σ b bs d) (m : MdAt σ (b + 2) rs M) : RAt σ' σ' b bs d := by
  have lt : ∀ {i : Nat} {o : O}, σ[i]? = some o → i < σ.length := fun h => (List.getElem?_eq_some_iff.mp h).1
  refine ⟨?_, ?_, Nat.le_refl _, fun _ _ _ => rfl⟩
  · rw [x.same b (lt h.ns) (by lia) fun e he => by have := m.pos e he; lia]; exact h.ns
  · rw [x.same (b + 1) (lt h.inst) (by lia) fun e he => by have := m.pos e he; lia]; exact h.inst
theorem KeyV.r {σ1 σ' : AH} {b : Nat} {bs : List Int} {d d1 : Dec} {k : MK} {t : Nat} {kv : V} (hk : KeyV σ1 k t kv) (h : RAt σ1 σ' b bs d) (h1 : RAt σ1 σ1 b bs d1) : KeyV σ' k t kv := by
  cases k with
  | s x => exact hk
  | t ks =>
    refine ⟨hk.1, ?_⟩
    rw [h.same t (List.getElem?_eq_some_iff.mp hk.2).1 (fun q => by have := hk.2; rw [q, h1.ns] at this; cases this)]
    exact hk.2
theorem get_spec {C : Cx} {A : Around} {σ : AH} {E : EX} {Q : V → AH → Prop} {b t : Nat} {l : List Int} {rs : RW} {d : Dec} {M : Cts} {k : MK} {kv : V} {bit mid : Int} {e : Enc} (c : Law C) (rm : Room A 3) (h : RrAt σ b (bytesOf l) rs d M) (hl : IsBits l) (hlz : l.length ≤ 90000) (hz : rs.length ≤ 900) (hk : KeyV σ k t kv) (ok : ROk (M k)) (dk : DOk d e (strm l)) (er : ERest e) (hK : e.k ≤ 50000)
    (hmid : midOf (M k) d.low d.high = mid) (hbit : (if mid ≤ d.value then 1 else 0) = bit) (hb : bit = 0 ∨ bit = 1)
    (hq : ∀ σ' rs', RrAt σ' b (bytesOf l) rs' (Dec.ren (strm l) 25 (d.narrow mid bit)) (noted M k bit) → RExt σ σ' b rs rs' → Q (.int bit) σ') : WC C A (.ref 245) [.ref (b + 1), kv] σ Q E := by
  refine WC_def (pn := [Str.ofString "self", Str.ofString "context"]) (ln := [Str.ofString "middle", Str.ofString "bit", Str.ofString "off"]) (gl := [(Str.ofString "HALF", Value.int 8388608 388), (Str.ofString "QUARTER", Value.int 4194304 391)]) (dv := []) (ds := []) (c.K _ _ rfl) rfl (codeRec_of c.K (by kernel_rfl)) (by first | exact Room.dep0 (by assumption) | assumption | lia | exact Nat.le_of_ble_eq_true rfl) .nil rfl (fun x v h => c.glo x v ((show ∀ p ∈ ([(Str.ofString "HALF", Value.int 8388608 388), (Str.ofString "QUARTER", Value.int 4194304 391)] : List (Str × Value)), p ∈ lawGlo by decide +kernel) (x, v) h)) ?_ (by decide +kernel) (by decide +kernel) (by decide +kernel) (by decide +kernel) ?_
  · intro s xs hkp hl
    obtain ⟨x0, x1, rfl⟩ := len2 hl
    first | exact BindsTo.of_eq rfl | exact BindsTo.of_defaults rfl (hkp _ _ (c.K _ _ rfl)) rfl rfl rfl
  intro env henv
  replace c := c.wg [(Str.ofString "HALF", Value.int 8388608 388), (Str.ofString "QUARTER", Value.int 4194304 391)]
  show WSs (C.wg [(Str.ofString "HALF", Value.int 8388608 388), (Str.ofString "QUARTER", Value.int 4194304 391)]) _ _ _ [(Str.ofString "self", some (.ref (b + 1))), (Str.ofString "context", some (kv)), (Str.ofString "middle", none), (Str.ofString "bit", none), (Str.ofString "off", none)] _ _ _
  refine WSs_opqF fun _ _ _ => ?_
  have rm := rm.deep (env := env)
  have ei := er.inv
  have ew := er.wide
  have mid12 : e.low < mid ∧ mid < e.high := by rw [← hmid, dk.lo, dk.hi]; exact midOf_in ew
  refine WSs_asgW ?_
  refine WE_meth ?_
  refine WE_attrN mem0 ?_
  refine r_model c h.r ?_
  refine WM_inst (f := 168) c.K clsM (by kernel_rfl) (by kernel_rfl) h.mod.inst h.mod.ns (by kernel_rfl) ⟨callable_K c.K (by kernel_rfl), ?_⟩
  refine WL_consE (.name mem1) ?_; refine WL_cons ?_; refine WE_attrN mem0 ?_
  refine r_low c h.r ?_
  refine WL_cons ?_; refine WE_attrN mem0 ?_
  refine r_high c h.r ?_
  refine WL_ev .nil ?_
  refine split_spec c rm.le h.mod (by lia) hk ok ?_ (by have := ei.lo; have := ei.hi; rw [dk.lo, dk.hi]; lia)
  intro σ1 rs1 m1 x1
  rw [hmid]
  have r1 := x1.r h.r h.mod
  have k1 := hk.ext h.mod x1
  refine exUp up2 ?_; refine WSs_asgW ?_; refine WE_IfExp ?_; refine WB_CmpR (.name mem2) ?_; refine WE_attrN mem0 ?_
  refine r_value c r1 ?_
  refine ge_ii ?_; refine WTr_bool ?_
  refine ite_WE (x := .int bit) (fun hv => ?_) (fun hv => ?_) ?_
  · have hv' : mid ≤ d.value := of_decide_eq_true hv
    rw [if_pos hv'] at hbit
    refine WE_ev .int ?_
    exact ⟨by rw [hbit], rfl⟩
  · have hv' : ¬ mid ≤ d.value := of_decide_eq_false hv
    rw [if_neg hv'] at hbit
    refine WE_ev .int ?_
    exact ⟨by rw [hbit], rfl⟩
  apply exUp
  focus exact up3
  try refine Thn_next ?_
  refine WSs_cons ?_
  refine WS.conseqI (Q := fun fl ρ' σ' => fl = .next ∧ ρ' = ([(Str.ofString "self", (some (V.ref (b + 1)))), (Str.ofString "context", (some kv)), (Str.ofString "middle", (some (.int mid))), (Str.ofString "bit", (some (.int bit))), (Str.ofString "off", none)] : Loc) ∧ RAt σ1 σ' b (bytesOf l) (d.narrow mid bit)) (fun _ _ => ?_) ?_
  · clear hbit hmid
    rcases hb with rfl | rfl
    · refine WS_if ?_; refine WB_CmpR .int ?_; refine WE_ev (.name mem3) ?_; refine eq_ii ?_; refine WTr_bool ?_; refine WSs_cons ?_; refine WS_setattr ?_; refine WE_ev (.name mem2) ?_; refine WE_ev (.name mem0) ?_
      refine rset_high c r1 fun σ' h' => ?_
      refine Thn_next ?_; refine WSs_nil ?_; refine hOf (by assumption) ?_
      exact ⟨rfl, rfl, h'⟩
    · refine WS_if ?_; refine WB_CmpR .int ?_; refine WE_ev (.name mem3) ?_; refine eq_ii ?_; refine WTr_bool ?_; refine WSs_cons ?_; refine WS_setattr ?_; refine WE_ev (.name mem2) ?_; refine WE_ev (.name mem0) ?_
      refine rset_low c r1 fun σ' h' => ?_
      refine Thn_next ?_; refine WSs_nil ?_; refine hOf (by assumption) ?_
      exact ⟨rfl, rfl, h'⟩
  rintro fl ρ' σ2 ⟨rfl, rfl, r2⟩
  have m2 := r2.mod r1 m1
  have k2 := k1.r r2 r1
  refine Thn_next ?_; refine WSs_expr ?_
  refine WE_meth ?_
  refine WE_attrN mem0 ?_
  refine r_model c r2 ?_
  refine WM_inst (f := 161) c.K clsM (by kernel_rfl) (by kernel_rfl) m2.inst m2.ns (by kernel_rfl) ⟨callable_K c.K (by kernel_rfl), ?_⟩
  refine WL_consE (.name mem1) ?_; refine WL_consE (.name mem3) ?_; refine WL_ev .nil ?_
  refine note_spec c rm.le m2 (by have := x1.cnt; lia) k2 ok hb ?_
  intro σ3 rs3 m3 x3
  have r22 : RAt σ2 σ2 b (bytesOf l) (d.narrow mid bit) := ⟨r2.ns, r2.inst, Nat.le_refl _, fun _ _ _ => rfl⟩
  have r3 := x3.r r22 m2
  have en := ei.narrow (bit := bit) mid12.1 mid12.2
  have dn := dk.narrow mid bit
  have nk : (e.narrow mid bit).k = e.k := by unfold Enc.narrow; split <;> rfl
  have fin : ∀ σ', RAt σ3 σ' b (bytesOf l) (Dec.ren (strm l) 25 (d.narrow mid bit)) → Q (.int bit) σ' := by
    intro σ' r4
    refine hq σ' rs3 ⟨⟨r4.ns, r4.inst, Nat.le_refl _, fun _ _ _ => rfl⟩, r4.mod r3 m3⟩ ⟨Nat.le_trans x1.len (Nat.le_trans r2.len (Nat.le_trans x3.len r4.len)), fun i hi h1 h4 hr => ?_, fun e he => ?_, by have := x1.cnt; have := x3.cnt; lia⟩
    · have hi1 := Nat.lt_of_lt_of_le hi x1.len
      have hi2 := Nat.lt_of_lt_of_le hi1 r2.len
      have hr1 : ∀ e ∈ rs1, i ≠ e.2.2 := fun e he => by
        rcases x1.new e he with he | he
        · exact hr e he
        · lia
      rw [r4.same i (Nat.lt_of_lt_of_le hi2 x3.len) h1, x3.same i hi2 h4 hr1, r2.same i hi1 h1, x1.same i hi h4 hr]
    · rcases x3.new e he with he | he
      · exact x1.new e he
      · exact .inr (Nat.le_trans x1.len (Nat.le_trans r2.len he))
  generalize d.narrow mid bit = d0 at *
  generalize e.narrow mid bit = e0 at *
  clear r2 m2 k2 m1 x1 r1 k1 x3 m3 r22
  repeat (first | refine Thn_next ?_ | refine WSs_cons ?_)
  refine WS_while (fun f ρ' σ' => Ex3 fun d e a1 => And7 (ρ' = ([(Str.ofString "self", (some (V.ref (b + 1)))), (Str.ofString "context", (some kv)), (Str.ofString "middle", (some (.int mid))), (Str.ofString "bit", (some (.int bit))), (Str.ofString "off", a1)] : Loc)) (RAt σ3 σ' b (bytesOf l) d) (DOk d e (strm l)) (EInv e) (16777216 < (e.high - e.low) * 2 ^ f) (Dec.ren (strm l) f d = Dec.ren (strm l) 25 d0) (e.k + f ≤ 60000)) 25 ⟨d0, e0, _, rfl, r3, dn, en, pow_le25 (by have := en.lt; lia), rfl, by lia⟩ ?_
  rintro f ρ' σ' ⟨d, e, a1, rfl, r, dk, i, big, hr, hf⟩
  refine WB_plain ?_
  refine WE_bool ?_
  refine WTr_bool ?_
  refine ite_t rfl ?_
  refine WSs_cons ?_
  refine WS.conseqI (Q := fun fl ρ' σ'' => σ'' = σ' ∧ ((fl = .next ∧ ∃ c, rn d.low d.high = some c ∧ ρ' = ([(Str.ofString "self", (some (V.ref (b + 1)))), (Str.ofString "context", (some kv)), (Str.ofString "middle", (some (.int mid))), (Str.ofString "bit", (some (.int bit))), (Str.ofString "off", (some (.int c)))] : Loc)) ∨ (fl = .brk ∧ ρ' = ([(Str.ofString "self", (some (V.ref (b + 1)))), (Str.ofString "context", (some kv)), (Str.ofString "middle", (some (.int mid))), (Str.ofString "bit", (some (.int bit))), (Str.ofString "off", a1)] : Loc) ∧ rn d.low d.high = none))) (fun _ _ => ?_) ?_
  · refine WS_if ?_; refine WB_CmpR (.glob mem0) ?_; refine WE_attrN mem0 ?_
    refine r_high c r ?_
    refine le_ii ?_; refine WTr_bool ?_
    refine ite_b (fun hc => ?_) fun hc => ?_
    · have hc' := of_decide_eq_true hc
      refine WSs_asgW ?_; refine WE_ev .int ?_; refine exUp up4 ?_; refine WSs_nil ?_; refine hOf (by assumption) ?_
      exact ⟨rfl, .inl ⟨rfl, 0, by rw [rn, if_pos hc'], rfl⟩⟩
    have hc1 := of_decide_eq_false hc
    refine WSs_if ?_; refine WB_CmpR (.glob mem0) ?_; refine WE_attrN mem0 ?_
    refine r_low c r ?_
    refine ge_ii ?_; refine WTr_bool ?_
    refine ite_b (fun hd => ?_) fun hd => ?_
    · have hd' := of_decide_eq_true hd
      refine WSs_asgW ?_; refine WE_ev (.glob mem0) ?_; refine exUp up4 ?_; refine WSs_nil ?_; refine Thn_next ?_; refine WSs_nil ?_; refine hOf (by assumption) ?_
      exact ⟨rfl, .inl ⟨rfl, 8388608, by rw [rn, if_neg hc1, if_pos hd'], rfl⟩⟩
    have hd1 := of_decide_eq_false hd
    refine WSs_if ?_; refine WB_and ?_; refine WB_CmpR (.glob mem1) ?_; refine WE_attrN mem0 ?_
    refine r_low c r ?_
    refine ge_ii ?_; refine WTr_bool ?_
    refine ite_b (fun hg => ?_) fun hg => ?_
    · have hg' := of_decide_eq_true hg
      refine WB_and ?_; refine WB_Compare1 ?_; refine WE_attrN mem0 ?_
      refine r_high c r ?_
      refine WE_BinR (.glob mem1) ?_; refine WE_ev .int ?_
      refine mul_ii (mul_small (by lia) (by lia)) ?_
      refine le_ii ?_; refine WTr_bool ?_
      refine ite_b (fun hj => ?_) fun hj => ?_
      · have hj' := of_decide_eq_true hj
        refine WB_and_nil ?_; refine WSs_asgW ?_; refine WE_ev (.glob mem1) ?_; refine exUp up4 ?_; refine WSs_nil ?_; refine Thn_next ?_; refine WSs_nil ?_; refine Thn_next ?_; refine WSs_nil ?_; refine hOf (by assumption) ?_
        exact ⟨rfl, .inl ⟨rfl, 4194304, by rw [rn, if_neg hc1, if_neg hd1, if_pos ⟨hg', by lia⟩], rfl⟩⟩
      · have hj' := of_decide_eq_false hj
        refine WSs_cons ?_; refine WS_break ?_; refine Thn_brk ?_; refine Thn_brk ?_; refine Thn_brk ?_; refine hOf (by assumption) ?_
        exact ⟨rfl, .inr ⟨rfl, rfl, by rw [rn, if_neg hc1, if_neg hd1, if_neg (by lia)]⟩⟩
    · have hg' := of_decide_eq_false hg
      refine WSs_cons ?_; refine WS_break ?_; refine Thn_brk ?_; refine Thn_brk ?_; refine Thn_brk ?_; refine hOf (by assumption) ?_
      exact ⟨rfl, .inr ⟨rfl, rfl, by rw [rn, if_neg hc1, if_neg hd1, if_neg (by lia)]⟩⟩
  rintro fl ρ' σ4 ⟨rfl, ⟨rfl, cc, hc, rfl⟩ | ⟨rfl, rfl, hn⟩⟩
  · refine Thn_next ?_; refine WSs_opq fun _ _ _ => ?_; refine WSs_cons ?_; refine WS_setattr ?_; refine WE_BinL .int ?_; refine WE_BinR (.name mem4) ?_; refine WE_attrN mem0 ?_
    refine r_low c r ?_
    refine sub_ii ?_
    refine mul_ii (mul_small (by lia) (by lia)) ?_
    refine WE_ev (.name mem0) ?_
    refine rset_low c r fun σ5 r5 => ?_
    refine Thn_next ?_; refine WSs_cons ?_; refine WS_setattr ?_; refine WE_BinL .int ?_; refine WE_BinR (.name mem4) ?_; refine WE_attrN mem0 ?_
    refine r_high c r5 ?_
    refine sub_ii ?_
    refine mul_ii (mul_small (by lia) (by lia)) ?_
    refine WE_ev (.name mem0) ?_
    refine rset_high c r5 fun σ6 r6 => ?_
    refine Thn_next ?_; refine WSs_cons ?_; refine WS_setattr ?_; refine WE_BinOp ?_; refine WE_BinL .int ?_; refine WE_BinR (.name mem4) ?_; refine WE_attrN mem0 ?_
    refine r_value c r6 ?_
    refine sub_ii ?_
    refine mul_ii (mul_small (by lia) (by lia)) ?_
    refine WE_meth ?_
    refine WE_ev (.name mem0) ?_
    refine WM_inst (f := 238) c.K clsR (by kernel_rfl) (by kernel_rfl) r6.inst r6.ns (by kernel_rfl) ⟨callable_K c.K (by kernel_rfl), ?_⟩
    refine WL_ev .nil ?_
    refine bit_spec c rm.le r6 hl hlz fun σ7 r7 => ?_
    refine add_ii ?_; refine WE_ev (.name mem0) ?_
    refine rset_value c r7 fun σ8 r8 => ?_
    refine Thn_next ?_; refine WSs_nil ?_; refine hOf (by assumption) ?_; refine LoopPost_next ?_
    cases f with
    | zero => have := i.lo; have := i.hi; simp at big; lia
    | succ f =>
      have hc2 := hc
      rw [dk.lo, dk.hi] at hc2
      refine ⟨f, Nat.lt_succ_self f, d.step (strm l) cc, e.step cc, _, rfl, r8, dk.step cc, i.step hc2, ?_, ?_, by show e.k + 1 + f ≤ _; lia⟩
      · show 16777216 < (2 * (e.high - cc) - 2 * (e.low - cc)) * 2 ^ f
        rw [show 2 * (e.high - cc) - 2 * (e.low - cc) = (e.high - e.low) * 2 by lia, Int.mul_assoc, Int.mul_comm 2, ← Int.pow_succ]
        exact big
      · rw [← hr]
        show _ = Dec.ren (strm l) (f + 1) d
        conv => rhs; unfold Dec.ren
        rw [hc]
  · refine Thn_brk ?_; refine LoopPost_brk ?_; refine Thn_next ?_; refine WSs_retE (.name mem3) ?_; refine hOf (by assumption) ?_
    have hd : Dec.ren (strm l) f d = d := by
      cases f with
      | zero => rfl
      | succ f => unfold Dec.ren; rw [hn]
    refine fin _ ?_
    rw [← hr, hd]; exact r
end Mine

-- part E15i
set_option linter.unusedVariables false
namespace Mine
open PySem PySem.W PyProof.Rows
theorem WrAt.up {σ J : AH} {b : Nat} {rs : RW} {w : Wst} (h : WrAt σ b rs w) : WrAt (σ ++ J) b rs w := by
  have l : LAt (σ ++ J) (σ ++ J) b w.1 := ⟨gl_up h.l.ns, gl_up h.l.inst, gl_up h.l.bits, Nat.le_refl _, fun _ _ _ _ => rfl⟩
  have lt : ∀ {i : Nat} {o : O}, σ[i]? = some o → (σ ++ J)[i]? = σ[i]? := fun h => List.getElem?_append_left (List.getElem?_eq_some_iff.mp h).1
  exact ⟨l, h.mod.frame (lt h.mod.ns) (lt h.mod.inst) (lt h.mod.dict) (fun e he => lt (h.mod.rows e he)) fun i xs hi => gl_up hi, h.pos⟩
/-- an object of another's changes -/
theorem WrAt.other {σ : AH} {b : Nat} {rs : RW} {w : Wst} {j : Nat} {xs : List V} {o : O} (h : WrAt σ b rs w) (hj : b + 5 < j) (hl : σ[j]? = some (.list xs)) (hr : ∀ e ∈ rs, e.2.2 ≠ j) : WrAt (σ.set j o) b rs w := by
  have ne : ∀ {i : Nat}, i ≠ j → (σ.set j o)[i]? = σ[i]? := fun hi => List.getElem?_set_ne (Ne.symm hi)
  refine ⟨⟨(ne (by lia)).trans h.l.ns, (ne (by lia)).trans h.l.inst, (ne (by lia)).trans h.l.bits, Nat.le_refl _, fun _ _ _ _ => rfl⟩, h.mod.frame (ne (by lia)) (ne (by lia)) (ne (by lia)) (fun e he => ne (hr e he)) fun i ys hi => ?_, h.pos⟩
  rw [ne (fun q => by rw [q, hl] at hi; cases hi)]; exact hi
theorem pre_of {σb J σ' : AH} (hl : σb.length ≤ σ'.length) (hs : ∀ i, i < σb.length → σ'[i]? = (σb ++ J)[i]?) : σ' = σb ++ σ'.drop σb.length := by
  have : σ'.take σb.length = σb := by
    refine List.ext_getElem? fun i => ?_
    by_cases hi : i < σb.length
    · rw [List.getElem?_take_of_lt hi, hs i hi, List.getElem?_append_left hi]
    · rw [List.getElem?_eq_none (by rw [List.length_take]; lia), List.getElem?_eq_none (by lia)]
  conv => rhs; lhs; rw [← this]
  rw [List.take_append_drop]
/-- the writer and two lists of write_plane's own -/
structure WLp (σb J : AH) (b ui ci : Nat) (gu : List Int) (cov : List Bool) (rs : RW) (w : Wst) : Prop where
  wr : WrAt (σb ++ J) b rs w
  u : (σb ++ J)[ui]? = some (.list (gu.map .int))
  c : (σb ++ J)[ci]? = some (.list (cov.map .bool))
  lo : σb.length ≤ b
  ub : b + 5 < ui
  uc : ui < ci
  ru : ∀ e ∈ rs, e.2.2 ≠ ui ∧ e.2.2 ≠ ci
theorem WLp.up {σb J J2 : AH} {b ui ci : Nat} {gu : List Int} {cov : List Bool} {rs : RW} {w : Wst} (h : WLp σb J b ui ci gu cov rs w) : WLp σb (J ++ J2) b ui ci gu cov rs w := by
  have := h.wr.up (J := J2)
  have h1 := gl_up (J := J2) h.u
  have h2 := gl_up (J := J2) h.c
  rw [List.append_assoc] at this h1 h2
  exact ⟨this, h1, h2, h.lo, h.ub, h.uc, h.ru⟩
theorem WLp.ext {σb J σ' : AH} {b ui ci : Nat} {gu : List Int} {cov : List Bool} {rs rs' : RW} {w w' : Wst} (h : WLp σb J b ui ci gu cov rs w) (x : WExt (σb ++ J) σ' b rs rs') (hw : WrAt σ' b rs' w') : ∃ J', σ' = σb ++ J' ∧ WLp σb J' b ui ci gu cov rs' w' := by
  have lt : ∀ {i : Nat} {o : O}, (σb ++ J)[i]? = some o → i < (σb ++ J).length := fun h => (List.getElem?_eq_some_iff.mp h).1
  have lo := h.lo
  have ub := h.ub
  have uc := h.uc
  have hp := h.wr.pos
  have e : σ' = σb ++ σ'.drop σb.length := by
    refine pre_of (J := J) ?_ fun i hi => ?_
    · have := x.len; rw [List.length_append] at this; lia
    · exact x.same i (by rw [List.length_append]; lia) (by lia) (by lia) (by lia) fun e he => by have := hp e he; lia
  refine ⟨_, e, ⟨e ▸ hw, ?_, ?_, lo, ub, uc, fun e' he => ?_⟩⟩
  · rw [← e, x.same ui (lt h.u) (by lia) (by lia) (by lia) fun e he q => (h.ru e he).1 q.symm]; exact h.u
  · rw [← e, x.same ci (lt h.c) (by lia) (by lia) (by lia) fun e he q => (h.ru e he).2 q.symm]; exact h.c
  · rcases x.new e' he with h' | h'
    · exact h.ru e' h'
    · have := lt h.u; have := lt h.c; lia
theorem WLp.set {σb J : AH} {b ui ci : Nat} {gu : List Int} {cov : List Bool} {rs : RW} {w : Wst} (h : WLp σb J b ui ci gu cov rs w) (cov' : List Bool) : ∃ J', (σb ++ J).set ci (.list (cov'.map .bool)) = σb ++ J' ∧ WLp σb J' b ui ci gu cov' rs w := by
  have lo := h.lo
  have ub := h.ub
  have uc := h.uc
  have hl := (List.getElem?_eq_some_iff.mp h.c).1
  have e : (σb ++ J).set ci (.list (cov'.map .bool)) = σb ++ J.set (ci - σb.length) (.list (cov'.map .bool)) := List.set_append_right _ _ (by lia)
  refine ⟨_, e, ?_⟩
  have wr := h.wr.other (o := .list (cov'.map .bool)) (by lia) h.c fun e he => (h.ru e he).2
  have h1 : ((σb ++ J).set ci (.list (cov'.map .bool)))[ui]? = some (.list (gu.map .int)) := by rw [List.getElem?_set_ne (by lia)]; exact h.u
  have h2 : ((σb ++ J).set ci (.list (cov'.map .bool)))[ci]? = some (.list (cov'.map .bool)) := List.getElem?_set_self hl
  rw [e] at wr h1 h2
  exact ⟨wr, h1, h2, lo, ub, uc, h.ru⟩
theorem div_pos' {x p : Int} (hp : 0 < p) (h : p ≤ x) : 0 < x / p := by
  have h1 : (1 : Int) ≤ x / p := (Int.le_ediv_iff_mul_le hp).mpr (by lia)
  lia
theorem gt_shr {x : Int} (q : Nat) (h : 0 ≤ x) : decide (0 < x.fdiv (2 ^ q)) = decide (2 ^ q ≤ x) := by
  have hp : (0 : Int) < 2 ^ q := Int.pow_pos (by decide)
  rw [Int.fdiv_eq_ediv_of_nonneg _ (Int.le_of_lt hp)]
  by_cases hc : 2 ^ q ≤ x
  · rw [decide_eq_true hc, decide_eq_true (div_pos' hp hc)]
  · rw [decide_eq_false hc, Int.ediv_eq_zero_of_lt h (by lia)]; rfl
noncomputable def pxOf (W H L : Nat) (v : List Int) (p : Nat) : Plx := ⟨W * H, psM W H L (3 * L), dsM W H L (3 * L), v, guP (psM W H L (3 * L)) v (W * H) (W * H - 1), fun k => decide (0 < (kids (psM W H L (3 * L)) k).length), p⟩
end Mine

-- part E15j
set_option linter.unusedVariables false
namespace Mine
open PySem PySem.W PyProof.Rows
theorem wl_put {C : Cx} {A : Around} {σb J : AH} {E : EX} {Q : V → AH → Prop} {b ui ci t : Nat} {gu : List Int} {cov : List Bool} {rs : RW} {evs : List Ev} {k : MK} {kv : V} {bit : Int} (c : Law C) (rm : Room A 3) (h : WLp σb J b ui ci gu cov rs (wst evs)) (hz : rs.length ≤ 2 * evs.length) (he : evs.length ≤ 200) (hk : KeyV (σb ++ J) k t kv) (hb : bit = 0 ∨ bit = 1)
    (hq : ∀ J' rs', WLp σb J' b ui ci gu cov rs' (wst (evs ++ [(k, bit)])) → rs'.length ≤ 2 * (evs ++ [(k, bit)]).length → Q .none (σb ++ J')) : WC C A (.ref 203) [.ref (b + 1), kv, .int bit] (σb ++ J) Q E := by
  refine put_spec c rm h.wr (wst_ok evs) (by lia) (by have := wst_k evs; lia) hk hb ?_
  intro σ' rs' wr' x
  rw [← wst_snoc] at wr'
  obtain ⟨J', rfl, h'⟩ := h.ext x wr'
  exact hq J' rs' h' (by have := x.cnt; rw [List.length_append]; simp; lia)
theorem set_same {cov : List Bool} {k : Nat} (h : cov.getD k false = false) : cov.set k false = cov := by
  refine List.ext_getElem? fun i => ?_
  by_cases hi : i = k
  · subst hi
    by_cases hl : i < cov.length
    · rw [List.getElem?_set_self hl]
      rw [List.getD, List.getElem?_eq_getElem hl] at h
      rw [List.getElem?_eq_getElem hl]
      exact congrArg some h.symm
    · rw [List.getElem?_eq_none (by rw [List.length_set]; lia), List.getElem?_eq_none (by lia)]
  · rw [List.getElem?_set_ne (Ne.symm hi)]
theorem bool_at {cov : List Bool} {i : Nat} (h : i < cov.length) : (cov.map V.bool)[i]? = some (.bool (cov.getD i false)) := by simp [List.getD, h]
theorem write_spec {C : Cx} {A : Around} {σb J : AH} {E : EX} {Q : V → AH → Prop} {b t W H L p : Nat} {vv : V} {v : List Int} (c : Law C) (rm : Room A 5) (T : TreeAt C σb t W H L) (tok : TreeOk W H L) (hn : W * H ≤ 36) (ov : Rd C σb vv (rowI v)) (lv : v.length = W * H) (lo : σb.length ≤ b) (hw : WrAt (σb ++ J) b [] (enc0, cts0)) (ok : (pxOf W H L v p).Ok)
    (hq : ∀ J' rs', WrAt (σb ++ J') b rs' (wst (pxOf W H L v p).all) → Q .none (σb ++ J')) : WC C A (.ref 121) [.ref (b + 1), .ref t, vv, .int p] (σb ++ J) Q E := by
  refine WC_def (pn := [Str.ofString "writer", Str.ofString "trees", Str.ofString "values", Str.ofString "plane"]) (ln := [Str.ofString "under", Str.ofString "bound", Str.ofString "covered", Str.ofString "k", Str.ofString "up", Str.ofString "size", Str.ofString "great", Str.ofString "near", Str.ofString "empty"]) (gl := [(Str.ofString "len", Value.builtin "len"), (Str.ofString "range", Value.type "range"), (Str.ofString "abs", Value.builtin "abs")]) (dv := []) (ds := []) (c.K _ _ rfl) rfl (codeRec_of c.K (by kernel_rfl)) (by first | exact Room.dep0 (by assumption) | assumption | lia | exact Nat.le_of_ble_eq_true rfl) .nil rfl (fun x v h => c.glo x v ((show ∀ p ∈ ([(Str.ofString "len", Value.builtin "len"), (Str.ofString "range", Value.type "range"), (Str.ofString "abs", Value.builtin "abs")] : List (Str × Value)), p ∈ lawGlo by decide +kernel) (x, v) h)) ?_ (by decide +kernel) (by decide +kernel) (by decide +kernel) (by decide +kernel) ?_
  · intro s xs hkp hl
    obtain ⟨x0, x1, x2, x3, rfl⟩ := len4 hl
    first | exact BindsTo.of_eq rfl | exact BindsTo.of_defaults rfl (hkp _ _ (c.K _ _ rfl)) rfl rfl rfl
  intro env henv
  replace c := c.wg [(Str.ofString "len", Value.builtin "len"), (Str.ofString "range", Value.type "range"), (Str.ofString "abs", Value.builtin "abs")]
  show WSs (C.wg [(Str.ofString "len", Value.builtin "len"), (Str.ofString "range", Value.type "range"), (Str.ofString "abs", Value.builtin "abs")]) _ _ _ [(Str.ofString "writer", some (.ref (b + 1))), (Str.ofString "trees", some (.ref t)), (Str.ofString "values", some (vv)), (Str.ofString "plane", some (.int p)), (Str.ofString "under", none), (Str.ofString "bound", none), (Str.ofString "covered", none), (Str.ofString "k", none), (Str.ofString "up", none), (Str.ofString "size", none), (Str.ofString "great", none), (Str.ofString "near", none), (Str.ofString "empty", none)] _ _ _
  refine WSs_opqF fun _ _ _ => ?_
  have rm := rm.deep (env := env)
  have zn : W * H ≤ 100000 := Nat.le_trans hn (Nat.le_of_ble_eq_true rfl)
  have hp5 := ok.p
  obtain ⟨d, js, jp, jd, jc, h1, h2, h3, h4, h5, h6⟩ := T.ex
  have ov' := ov.rowI_inv
  refine WSs_asgW ?_
  refine WE_meth ?_
  refine WE_ev (.name mem1) ?_
  refine WM_tree (f := 102) c T.wg.up (by kernel_rfl) (by kernel_rfl) (by decide +kernel) ⟨callable_K c.K (by kernel_rfl), ?_⟩
  refine WL_consE (.name mem2) ?_; refine WL_ev .nil ?_
  refine gu_spec c rm.le T.wg.up tok (by lia) ov.wg.up lv ?_
  obtain ⟨x, hx⟩ : ∃ x, x = pxOf W H L v p := ⟨_, rfl⟩
  rw [← hx] at hq ok
  have xn : W * H = x.n := by rw [hx]; rfl
  have xP : psM W H L (3 * L) = x.P := by rw [hx]; rfl
  have xD : dsM W H L (3 * L) = x.D := by rw [hx]; rfl
  have xv : v = x.v := by rw [hx]; rfl
  have xU : guP (psM W H L (3 * L)) v (W * H) (W * H - 1) = x.U := by rw [hx]; rfl
  have xp : p = x.p := by rw [hx]; rfl
  have xk : ∀ k, x.kn k = decide (0 < (kids x.P k).length) := fun k => by rw [hx]; rfl
  have lP : x.P.length = x.n := by rw [← xP, psM_len, tok.tot, xn]
  have lD : x.D.length = x.n := by rw [← xD, dsM_len, tok.tot, xn]
  have lU : x.U.length = x.n := by rw [← xU, guP_len, xn]
  rw [xU]
  rw [xP] at h4 h6
  rw [xD] at h5
  rw [xn] at h6 hn lv zn
  rw [xv] at lv ov'
  have hp5' : x.p ≤ 5 := ok.p
  clear hx xU xP xD T ov h3
  subst xp xv
  have hbl := (List.getElem?_eq_some_iff.mp hw.l.bits).1
  refine exUp up4 ?_; refine WSs_asgW ?_; refine WE_BinR (.name mem3) ?_; refine WE_ev .int ?_
  refine shl_ii (by lia) (by lia) (by decide) ?_
  rw [Int.one_mul, Int.toNat_natCast]
  refine exUp up5 ?_; refine WSs_asgW ?_; refine WE_BinOp ?_; refine WE_List ?_; refine WL_consE .bool ?_; refine WL_ev .nil ?_; refine szAnd ?_
  refine WE_call (C := C) mem0 callable_builtin ?_
  refine WL_consE (.name mem2) ?_; refine WL_ev .nil ?_
  refine WC_lenI ov'.up.up.up.up lv zn ?_
  refine mul_li (x := (x.n : Int)) (xs := [.bool false]) (ObjAt.new (C := C) rfl) (by lia) (by lia) (by simp; lia) ?_
  rw [rep_one, Int.toNat_natCast]
  have ecv : List.replicate x.n (V.bool false) = (x.cov 0).map .bool := by simp [Plx.cov]
  rw [ecv]
  have eH : σb ++ J ++ [O.list [V.int 0]] ++ [O.list (x.U.map V.int)] ++ [O.list [V.bool false]] ++ [O.list ((x.cov 0).map V.bool)] = σb ++ (J ++ [O.list [V.int 0]] ++ [O.list (x.U.map V.int)] ++ [O.list [V.bool false]] ++ [O.list ((x.cov 0).map V.bool)]) := by simp
  have eC : (σb ++ J ++ [O.list [V.int 0]] ++ [O.list (x.U.map V.int)] ++ [O.list [V.bool false]]).length = (σb ++ J).length + 3 := by simp [Nat.add_assoc]
  rw [eC, eH]
  have hl0 : WLp σb (J ++ [O.list [V.int 0]] ++ [O.list (x.U.map V.int)] ++ [O.list [V.bool false]] ++ [O.list ((x.cov 0).map V.bool)]) b ((σb ++ J).length + 1) ((σb ++ J).length + 3) x.U (x.cov 0) [] (wst (x.evs1 0)) := by
    have w1 := hw.up (J := [O.list [V.int 0], O.list (x.U.map V.int), O.list [V.bool false], O.list ((x.cov 0).map V.bool)])
    refine ⟨?_, ?_, ?_, lo, by lia, by lia, fun e he => (nomatch he)⟩
    · have e7 : σb ++ J ++ [O.list [V.int 0]] ++ [O.list (x.U.map V.int)] ++ [O.list [V.bool false]] ++ [O.list ((x.cov 0).map V.bool)] = σb ++ J ++ [O.list [V.int 0], O.list (x.U.map V.int), O.list [V.bool false], O.list ((x.cov 0).map V.bool)] := by simp
      rw [← eH, e7]; exact w1
    · rw [← eH]
      simp only [List.append_assoc]
      rw [← List.append_assoc σb J, List.getElem?_append_right (by lia)]
      simp
    · rw [← eH]
      simp only [List.append_assoc]
      rw [← List.append_assoc σb J, List.getElem?_append_right (by lia)]
      simp
  generalize (σb ++ J).length + 1 = ui at *
  generalize (σb ++ J).length + 3 = ci at *
  generalize J ++ [O.list [V.int 0]] ++ [O.list (x.U.map V.int)] ++ [O.list [V.bool false]] ++ [O.list ((x.cov 0).map V.bool)] = J0 at *
  clear eH eC ecv hw hbl
  refine exUp up6 ?_; refine WSs_cons ?_
  refine WS_for (WItr_rng rm.han mem1 ?_)
  refine WL_cons ?_
  refine WE_call (C := C) mem0 callable_builtin ?_
  refine WL_consE (.name mem2) ?_; refine WL_ev .nil ?_
  refine WC_lenI ov'.up lv zn ?_
  refine WL_ev .nil ?_
  refine exRng zn ?_
  refine ⟨fun k ρ' σ' => Ex8 fun J rs a1 a2 a3 a4 a5 a6 => And4 (σ' = σb ++ J) (WLp σb J b ui ci x.U (x.cov k) rs (wst (x.evs1 k))) (rs.length ≤ 2 * (x.evs1 k).length) (ρ' = ([(Str.ofString "writer", (some (.ref (b + 1)))), (Str.ofString "trees", (some (.ref t))), (Str.ofString "values", (some vv)), (Str.ofString "plane", (some (.int x.p))), (Str.ofString "under", (some (.ref ui))), (Str.ofString "bound", (some (.int (2 ^ x.p)))), (Str.ofString "covered", (some (.ref ci))), (Str.ofString "k", a1), (Str.ofString "up", a2), (Str.ofString "size", a3), (Str.ofString "great", a4), (Str.ofString "near", a5), (Str.ofString "empty", a6)] : Loc)), ⟨J0, [], _, _, _, _, _, _, rfl, hl0, by simp, rfl⟩, ?_, ?_⟩
  · rintro k ρ' σ' hk ⟨J, rs, a1, a2, a3, a4, a5, a6, rfl, hl, hrs, rfl⟩
    refine ⟨trivial, ?_⟩
    have up := ok.up k hk
    have hel := x.evs1_len k
    have kv : k < x.v.length := by rw [lv]; exact hk
    have kP : k < x.P.length := by rw [lP]; exact hk
    have kD : k < x.D.length := by rw [lD]; exact hk
    have zv : x.v.length ≤ 100000 := by rw [lv]; exact zn
    have zP : x.P.length ≤ 100000 := by rw [lP]; exact zn
    have zD : x.D.length ≤ 100000 := by rw [lD]; exact zn
    have lC := x.cov_len k
    have cvn : x.cov (k + 1) = (x.cov k).set k (x.ev1 (x.cov k) k).1 := rfl
    have evn : x.evs1 (k + 1) = x.evs1 k ++ (x.ev1 (x.cov k) k).2 := rfl
    have cs : (x.cov k).set k false = x.cov k := set_same (x.cov_later (Nat.le_refl k))
    have ck := ok.cut k
    have av0 : 0 ≤ av x.v k := by unfold av; split <;> lia
    refine WAs_opq fun _ _ _ => ?_; refine WAs_name up7 ?_; refine WSs_asgW ?_; refine WE_SubR (.name mem7) ?_; refine WE_attrN mem1 ?_
    refine at_parents c (gl_up h1) (gl_up h2) ?_
    refine item_intN (show ObjAt _ _ (.ref jp) _ from gl_up h4) zP kP ?_
    apply exUp
    focus exact up8
    try refine Thn_next ?_
    refine WSs_cons ?_
    by_cases hc : 0 ≤ x.P.getD k 0 ∧ (x.cov k).getD (x.P.getD k 0).toNat false = true
    · have e1 : x.ev1 (x.cov k) k = (true, []) := by unfold Plx.ev1; rw [if_pos hc]
      rw [e1] at cvn evn
      refine WS_if ?_; refine WB_and ?_; refine WB_CmpR .int ?_; refine WE_ev (.name mem8) ?_; refine ge_ii ?_; refine WTr_bool ?_
      refine ite_t (decide_eq_true hc.1) ?_
      refine WB_and ?_
      refine WB_plain ?_
      refine WE_SubR (.name mem8) ?_; refine WE_ev (.name mem6) ?_
      refine item_list (show ObjAt _ _ (.ref ci) _ from hl.c) hc.1 (by lia) (bool_at (by lia)) ?_
      rw [hc.2]
      refine WTr_bool ?_; refine WB_and_nil ?_; refine WSs_cons ?_; refine WS_setitem ?_; refine WE_ev .bool ?_; refine WE_ev (.name mem6) ?_; refine WE_ev (.name mem7) ?_
      refine seti_list hl.c (by lia) (by lia) (by rw [List.length_map, lC]; lia) ?_
      rw [Int.toNat_natCast, ← List.map_set]
      obtain ⟨J', eJ, hl'⟩ := hl.set ((x.cov k).set k true)
      rw [eJ]
      refine Thn_next ?_; refine WSs_cons ?_; refine WS_continue ?_; refine Thn_cont ?_; refine Thn_cont ?_; refine hOf (by assumption) ?_; refine LoopPost_cont ?_
      exact ⟨J', rs, _, _, _, _, _, _, rfl, by rw [cvn, evn, List.append_nil]; exact hl', by rw [evn, List.append_nil]; exact hrs, rfl⟩
    refine WS.conseqI (Q := fun fl ρ' σ' => fl = .next ∧ σ' = σb ++ J ∧ ρ' = ([(Str.ofString "writer", (some (.ref (b + 1)))), (Str.ofString "trees", (some (.ref t))), (Str.ofString "values", (some vv)), (Str.ofString "plane", (some (.int x.p))), (Str.ofString "under", (some (.ref ui))), (Str.ofString "bound", (some (.int (2 ^ x.p)))), (Str.ofString "covered", (some (.ref ci))), (Str.ofString "k", (some (.int (k : Nat)))), (Str.ofString "up", (some (.int (x.P.getD k 0)))), (Str.ofString "size", a3), (Str.ofString "great", a4), (Str.ofString "near", a5), (Str.ofString "empty", a6)] : Loc)) (fun _ _ => ?_) ?_
    · by_cases h0 : 0 ≤ x.P.getD k 0
      · have hcf : (x.cov k).getD (x.P.getD k 0).toNat false = false := by
          cases hq : (x.cov k).getD (x.P.getD k 0).toNat false
          · rfl
          · exact absurd ⟨h0, hq⟩ hc
        refine WS_if ?_; refine WB_and ?_; refine WB_CmpR .int ?_; refine WE_ev (.name mem8) ?_; refine ge_ii ?_; refine WTr_bool ?_
        refine ite_t (decide_eq_true h0) ?_
        refine WB_and ?_
        refine WB_plain ?_
        refine WE_SubR (.name mem8) ?_; refine WE_ev (.name mem6) ?_
        refine item_list (show ObjAt _ _ (.ref ci) _ from hl.c) h0 (by lia) (bool_at (by lia)) ?_
        rw [hcf]
        refine WTr_bool ?_; refine WSs_nil ?_; refine hOf (by assumption) ?_
        exact ⟨rfl, rfl, rfl⟩
      · refine WS_if ?_; refine WB_and ?_; refine WB_CmpR .int ?_; refine WE_ev (.name mem8) ?_; refine ge_ii ?_; refine WTr_bool ?_
        refine ite_f (decide_eq_false h0) ?_
        refine WSs_nil ?_; refine hOf (by assumption) ?_
        exact ⟨rfl, rfl, rfl⟩
    rintro fl ρ' σ' ⟨rfl, rfl, rfl⟩
    refine Thn_next ?_; refine WSs_asgW ?_
    refine WE_call (C := C) mem2 callable_builtin ?_
    refine WL_cons ?_; refine WE_SubR (.name mem7) ?_; refine WE_ev (.name mem2) ?_
    refine item_intN ov'.up zv kv ?_
    refine WL_ev .nil ?_
    refine WC_abs ?_
    rw [show (if x.v.getD k 0 < 0 then -x.v.getD k 0 else x.v.getD k 0) = av x.v k from rfl]
    refine exUp up9 ?_; refine WSs_if ?_; refine WB_CmpR .int ?_; refine WE_BinL (.name mem9) ?_; refine WE_BinR .int ?_; refine WE_ev (.name mem3) ?_; refine add_ii ?_
    refine shr_ii (by lia) ?_
    refine gt_ii ?_; refine WTr_bool ?_
    rw [show ((x.p : Int) + 1).toNat = x.p + 1 by lia, gt_shr _ av0]
    refine ite_b (fun hg => ?_) fun hg => ?_
    · have hg' := of_decide_eq_true hg
      have e1 : x.ev1 (x.cov k) k = (false, []) := by unfold Plx.ev1; rw [if_neg hc, if_pos hg']
      rw [e1, cs] at cvn
      rw [e1, List.append_nil] at evn
      refine WSs_cons ?_; refine WS_continue ?_; refine Thn_cont ?_; refine Thn_cont ?_; refine hOf (by assumption) ?_; refine LoopPost_cont ?_
      exact ⟨J, rs, _, _, _, _, _, _, rfl, by rw [cvn, evn]; exact hl, by rw [evn]; exact hrs, rfl⟩
    have hg' := of_decide_eq_false hg
    refine WSs_nil ?_; refine Thn_next ?_; refine WSs_asgW ?_; refine WE_IfExp ?_; refine WB_CmpR (.name mem5) ?_; refine WE_ev (.name mem9) ?_; refine ge_ii ?_; refine WTr_bool ?_
    refine ite_WE (x := .int (b01 (2 ^ x.p ≤ av x.v k))) (fun hb => ?_) (fun hb => ?_) ?_
    · have hb' := of_decide_eq_true hb
      refine WE_ev .int ?_
      exact ⟨by unfold b01; rw [if_pos hb'], rfl⟩
    · have hb' := of_decide_eq_false hb
      refine WE_ev .int ?_
      exact ⟨by unfold b01; rw [if_neg hb'], rfl⟩
    apply exUp
    focus exact up10
    try refine Thn_next ?_
    refine WSs_cons ?_
    refine WS.conseqI (Q := fun fl ρ' σ' => fl = .next ∧ σ' = σb ++ J ∧ ρ' = ([(Str.ofString "writer", (some (.ref (b + 1)))), (Str.ofString "trees", (some (.ref t))), (Str.ofString "values", (some vv)), (Str.ofString "plane", (some (.int x.p))), (Str.ofString "under", (some (.ref ui))), (Str.ofString "bound", (some (.int (2 ^ x.p)))), (Str.ofString "covered", (some (.ref ci))), (Str.ofString "k", (some (.int (k : Nat)))), (Str.ofString "up", (some (.int (x.P.getD k 0)))), (Str.ofString "size", (some (.int (av x.v k)))), (Str.ofString "great", (some (.int (b01 (2 ^ x.p ≤ av x.v k))))), (Str.ofString "near", (some (.int (x.near k)))), (Str.ofString "empty", a6)] : Loc)) (fun _ _ => ?_) ?_
    · by_cases h0 : 0 ≤ x.P.getD k 0
      · obtain ⟨u, hu⟩ : ∃ u : Nat, x.P.getD k 0 = (u : Int) := Int.eq_ofNat_of_zero_le h0
        refine WS_assign ?_; refine WE_IfExp ?_; refine WB_and ?_; refine WB_CmpR .int ?_; refine WE_ev (.name mem8) ?_; refine ge_ii ?_; refine WTr_bool ?_
        refine ite_t (decide_eq_true h0) ?_
        refine WB_and ?_; refine WB_CmpR (.name mem5) ?_
        refine WE_call (C := C) mem2 callable_builtin ?_
        refine WL_cons ?_; refine WE_SubR (.name mem8) ?_; refine WE_ev (.name mem2) ?_
        refine item_intE ov'.up hu zv (by lia) ?_
        refine WL_ev .nil ?_
        refine WC_abs ?_
        rw [show (if x.v.getD u 0 < 0 then -x.v.getD u 0 else x.v.getD u 0) = av x.v u from rfl]
        refine ge_ii ?_; refine WTr_bool ?_
        have hne : x.near k = b01 (2 ^ x.p ≤ av x.v u) := by unfold Plx.near; rw [hu, Int.toNat_natCast]; unfold b01; simp
        refine ite_b (fun hb => ?_) (fun hb => ?_)
        · have hb' := of_decide_eq_true hb
          refine WB_and_nil ?_; refine WE_ev .int ?_; refine exUp up11 ?_; refine hOf (by assumption) ?_
          exact ⟨rfl, rfl, by rw [hne]; unfold b01; rw [if_pos hb']⟩
        · have hb' := of_decide_eq_false hb
          refine WE_ev .int ?_; refine exUp up11 ?_; refine hOf (by assumption) ?_
          exact ⟨rfl, rfl, by rw [hne]; unfold b01; rw [if_neg hb']⟩
      · refine WS_assign ?_; refine WE_IfExp ?_; refine WB_and ?_; refine WB_CmpR .int ?_; refine WE_ev (.name mem8) ?_; refine ge_ii ?_; refine WTr_bool ?_
        refine ite_f (decide_eq_false h0) ?_
        refine WE_ev .int ?_; refine exUp up11 ?_; refine hOf (by assumption) ?_
        have hne : x.near k = 0 := by unfold Plx.near b01; rw [if_neg (fun q => h0 q.1)]
        rw [hne]
        exact ⟨rfl, rfl, rfl⟩
    rintro fl ρ' σ' ⟨rfl, rfl, rfl⟩
    refine Thn_next ?_; refine WSs_expr ?_
    refine WE_meth ?_
    refine WE_ev (.name mem0) ?_
    refine WM_inst (f := 203) c.K clsW (by kernel_rfl) (by kernel_rfl) hl.wr.l.inst hl.wr.l.ns (by kernel_rfl) ⟨callable_K c.K (by kernel_rfl), ?_⟩
    refine WL_cons ?_; refine WE_Tuple ?_; refine WL_consE .str ?_; refine WL_cons ?_; refine WE_SubR (.name mem7) ?_; refine WE_attrN mem1 ?_
    refine at_depths c (gl_up h1) (gl_up h2) ?_
    refine item_intN (show ObjAt _ _ (.ref jd) _ from gl_up h5) zD kD ?_
    refine WL_consE (.name mem11) ?_; refine WL_ev .nil ?_; refine szAnd ?_; refine WL_consE (.name mem10) ?_; refine WL_ev .nil ?_
    rw [List.append_assoc]
    have hk1 : KeyV (σb ++ (J ++ [O.tuple [V.str (Str.ofString "great"), V.int (x.D.getD k 0), V.int (x.near k)]])) (kGreat (x.D.getD k 0) (x.near k)) (σb ++ J).length (.ref (σb ++ J).length) := ⟨rfl, by rw [← List.append_assoc]; exact ObjAt.new (C := C) rfl⟩
    refine wl_put c rm.le hl.up hrs (by lia) hk1 (b01_bit _) ?_
    intro J2 rs2 hl2 hrs2
    clear hk1
    by_cases hgr : 2 ^ x.p ≤ av x.v k
    · have e1 : x.ev1 (x.cov k) k = (false, [(kGreat (x.D.getD k 0) (x.near k), 1), (kSign, b01 (x.v.getD k 0 < 0))]) := by unfold Plx.ev1; rw [if_neg hc, if_neg hg', if_pos hgr]
      rw [e1, cs] at cvn
      rw [e1] at evn
      have eb : b01 (2 ^ x.p ≤ av x.v k) = 1 := by unfold b01; rw [if_pos hgr]
      rw [eb] at hl2 hrs2 ⊢
      refine WSs_if ?_; refine WB_CmpR .int ?_; refine WE_ev (.name mem10) ?_; refine eq_ii ?_; refine WTr_bool ?_; refine WSs_expr ?_
      refine WE_meth ?_
      refine WE_ev (.name mem0) ?_
      refine WM_inst (f := 203) c.K clsW (by kernel_rfl) (by kernel_rfl) hl2.wr.l.inst hl2.wr.l.ns (by kernel_rfl) ⟨callable_K c.K (by kernel_rfl), ?_⟩
      refine WL_consE .str ?_; refine WL_cons ?_; refine WE_IfExp ?_; refine WB_CmpR .int ?_; refine WE_SubR (.name mem7) ?_; refine WE_ev (.name mem2) ?_
      refine item_intN ov'.up zv kv ?_
      refine lt_ii ?_; refine WTr_bool ?_
      refine ite_WE (x := .int (b01 (x.v.getD k 0 < 0))) (fun hb => ?_) (fun hb => ?_) ?_
      · have hb' := of_decide_eq_true hb
        refine WE_ev .int ?_
        exact ⟨by unfold b01; rw [if_pos hb'], rfl⟩
      · have hb' := of_decide_eq_false hb
        refine WE_ev .int ?_
        exact ⟨by unfold b01; rw [if_neg hb'], rfl⟩
      refine WL_ev .nil ?_
      refine wl_put (k := kSign) (t := 0) c rm.le hl2 hrs2 (by simp; lia) rfl (b01_bit _) ?_
      intro J3 rs3 hl3 hrs3
      rw [List.append_assoc] at hl3 hrs3
      refine WSs_nil ?_; refine Thn_next ?_; refine WSs_nil ?_; refine hOf (by assumption) ?_; refine LoopPost_next ?_
      exact ⟨J3, rs3, _, _, _, _, _, _, rfl, by rw [cvn, evn]; exact hl3, by rw [evn]; exact hrs3, rfl⟩
    have eb : b01 (2 ^ x.p ≤ av x.v k) = 0 := by unfold b01; rw [if_neg hgr]
    rw [eb] at hl2 hrs2 ⊢
    obtain ⟨xs, o6, r6⟩ := h6.list_inv
    obtain ⟨kf, rfl, hkf⟩ := r6.range_inv
    have hkd := (hkf k hk).rowI_inv
    refine WSs_if ?_; refine WB_CmpR .int ?_; refine WE_ev (.name mem10) ?_; refine eq_ii ?_; refine WTr_bool ?_; refine WSs_if ?_; refine WB_CmpR .int ?_
    refine WE_call (C := C) mem0 callable_builtin ?_
    refine WL_cons ?_; refine WE_SubR (.name mem7) ?_; refine WE_attrN mem1 ?_
    refine at_children c (gl_up h1) (gl_up h2) ?_
    refine item_listN (x := kf k) (show ObjAt _ _ (.ref jc) _ from gl_up o6) (by simp; lia) (by simp [hk]) ?_
    refine WL_ev .nil ?_
    refine WC_lenI hkd.up (n := (kids x.P k).length) (by simp) (by unfold kids; have := List.length_filter_le (fun c => x.P.getD c 0 == (k : Int)) (List.range x.P.length); rw [List.length_range] at this; lia) ?_
    refine gt_ii ?_; refine WTr_bool ?_
    refine ite_b (fun hkn => ?_) fun hkn => ?_
    · have hkn' : x.kn k = true := by rw [xk]; have := of_decide_eq_true hkn; exact decide_eq_true (by lia)
      have e1 : x.ev1 (x.cov k) k = (decide (x.U.getD k 0 < 2 ^ x.p), [(kGreat (x.D.getD k 0) (x.near k), 0), (kEmpty (x.D.getD k 0), b01 (x.U.getD k 0 < 2 ^ x.p))]) := by unfold Plx.ev1; rw [if_neg hc, if_neg hg', if_neg hgr, if_pos hkn']
      rw [e1] at cvn evn
      refine WSs_asgW ?_; refine WE_IfExp ?_; refine WB_CmpR (.name mem5) ?_; refine WE_SubR (.name mem7) ?_; refine WE_ev (.name mem4) ?_
      refine item_intN (show ObjAt _ _ (.ref ui) _ from hl2.u) (by rw [lU]; exact zn) (by rw [lU]; exact hk) ?_
      refine lt_ii ?_; refine WTr_bool ?_
      refine ite_WE (x := .int (b01 (x.U.getD k 0 < 2 ^ x.p))) (fun hb => ?_) (fun hb => ?_) ?_
      · have hb' := of_decide_eq_true hb
        refine WE_ev .int ?_
        exact ⟨by unfold b01; rw [if_pos hb'], rfl⟩
      · have hb' := of_decide_eq_false hb
        refine WE_ev .int ?_
        exact ⟨by unfold b01; rw [if_neg hb'], rfl⟩
      refine exUp up12 ?_; refine WSs_expr ?_
      refine WE_meth ?_
      refine WE_ev (.name mem0) ?_
      refine WM_inst (f := 203) c.K clsW (by kernel_rfl) (by kernel_rfl) hl2.wr.l.inst hl2.wr.l.ns (by kernel_rfl) ⟨callable_K c.K (by kernel_rfl), ?_⟩
      refine WL_cons ?_; refine WE_Tuple ?_; refine WL_consE .str ?_; refine WL_cons ?_; refine WE_SubR (.name mem7) ?_; refine WE_attrN mem1 ?_
      refine at_depths c (gl_up h1) (gl_up h2) ?_
      refine item_intN (show ObjAt _ _ (.ref jd) _ from gl_up h5) zD kD ?_
      refine WL_ev .nil ?_; refine szAnd ?_; refine WL_consE (.name mem12) ?_; refine WL_ev .nil ?_
      rw [List.append_assoc]
      have hk2 : KeyV (σb ++ (J2 ++ [O.tuple [V.str (Str.ofString "empty"), V.int (x.D.getD k 0)]])) (kEmpty (x.D.getD k 0)) (σb ++ J2).length (.ref (σb ++ J2).length) := ⟨rfl, by rw [← List.append_assoc]; exact ObjAt.new (C := C) rfl⟩
      refine wl_put c rm.le hl2.up hrs2 (by simp; lia) hk2 (b01_bit _) ?_
      intro J3 rs3 hl3 hrs3
      rw [List.append_assoc] at hl3 hrs3
      refine WSs_cons ?_; refine WS_setitem ?_; refine WE_CmpR .int ?_; refine WE_ev (.name mem12) ?_; refine eq_ii ?_; refine WE_ev (.name mem6) ?_; refine WE_ev (.name mem7) ?_
      have ebb : (b01 (x.U.getD k 0 < 2 ^ x.p) == 1) = decide (x.U.getD k 0 < 2 ^ x.p) := by unfold b01; split <;> simp_all
      rw [ebb]
      refine seti_list hl3.c (by lia) (by lia) (by rw [List.length_map, lC]; lia) ?_
      rw [Int.toNat_natCast, ← List.map_set]
      obtain ⟨J4, eJ, hl4⟩ := hl3.set ((x.cov k).set k (decide (x.U.getD k 0 < 2 ^ x.p)))
      rw [eJ]
      refine Thn_next ?_; refine WSs_nil ?_; refine Thn_next ?_; refine WSs_nil ?_; refine Thn_next ?_; refine WSs_nil ?_; refine hOf (by assumption) ?_; refine LoopPost_next ?_
      exact ⟨J4, rs3, _, _, _, _, _, _, rfl, by rw [cvn, evn]; exact hl4, by rw [evn]; exact hrs3, rfl⟩
    · have hkn' : ¬ x.kn k = true := by rw [xk]; intro q; exact of_decide_eq_false hkn (by have := of_decide_eq_true q; lia)
      have e1 : x.ev1 (x.cov k) k = (false, [(kGreat (x.D.getD k 0) (x.near k), 0)]) := by unfold Plx.ev1; rw [if_neg hc, if_neg hg', if_neg hgr, if_neg hkn']
      rw [e1, cs] at cvn
      rw [e1] at evn
      refine WSs_nil ?_; refine Thn_next ?_; refine WSs_nil ?_; refine Thn_next ?_; refine WSs_nil ?_; refine hOf (by assumption) ?_; refine LoopPost_next ?_
      exact ⟨J2, rs2, _, _, _, _, _, _, rfl, by rw [cvn, evn]; exact hl2, by rw [evn]; exact hrs2, rfl⟩
  rintro ρ' σ' ⟨J, rs, a1, a2, a3, a4, a5, a6, rfl, hl, hrs, rfl⟩
  refine ⟨trivial, ?_⟩
  have hel := x.evs1_len x.n
  refine Thn_next ?_; refine WSs_cons ?_
  refine WS_for (WItr_rng rm.han mem1 ?_)
  refine WL_cons ?_
  refine WE_call (C := C) mem0 callable_builtin ?_
  refine WL_consE (.name mem2) ?_; refine WL_ev .nil ?_
  refine WC_lenI ov'.up lv zn ?_
  refine WL_ev .nil ?_
  refine exRng zn ?_
  refine ⟨fun k ρ' σ' => Ex8 fun J rs a1 a2 a3 a4 a5 a6 => And4 (σ' = σb ++ J) (WLp σb J b ui ci x.U (x.cov x.n) rs (wst (x.evs1 x.n ++ x.evs2 k))) (rs.length ≤ 2 * (x.evs1 x.n ++ x.evs2 k).length) (ρ' = ([(Str.ofString "writer", (some (.ref (b + 1)))), (Str.ofString "trees", (some (.ref t))), (Str.ofString "values", (some vv)), (Str.ofString "plane", (some (.int x.p))), (Str.ofString "under", (some (.ref ui))), (Str.ofString "bound", (some (.int (2 ^ x.p)))), (Str.ofString "covered", (some (.ref ci))), (Str.ofString "k", a1), (Str.ofString "up", a2), (Str.ofString "size", a3), (Str.ofString "great", a4), (Str.ofString "near", a5), (Str.ofString "empty", a6)] : Loc)), ⟨J, rs, _, _, _, _, _, _, rfl, by rw [Plx.evs2, List.append_nil]; exact hl, by rw [Plx.evs2, List.append_nil]; exact hrs, rfl⟩, ?_, ?_⟩
  · rintro k ρ' σ' hk ⟨J, rs, a1, a2, a3, a4, a5, a6, rfl, hl, hrs, rfl⟩
    refine ⟨trivial, ?_⟩
    have hel2 := x.evs2_len k
    have kv : k < x.v.length := by rw [lv]; exact hk
    have zv : x.v.length ≤ 100000 := by rw [lv]; exact zn
    have av0 : 0 ≤ av x.v k := by unfold av; split <;> lia
    have evn : x.evs1 x.n ++ x.evs2 (k + 1) = x.evs1 x.n ++ x.evs2 k ++ x.ev2 k := by rw [Plx.evs2, List.append_assoc]
    have ck := ok.cut k
    refine WAs_opq fun _ _ _ => ?_; refine WAs_name up7 ?_; refine WSs_asgW ?_
    refine WE_call (C := C) mem2 callable_builtin ?_
    refine WL_cons ?_; refine WE_SubR (.name mem7) ?_; refine WE_ev (.name mem2) ?_
    refine item_intN ov'.up zv kv ?_
    refine WL_ev .nil ?_
    refine WC_abs ?_
    rw [show (if x.v.getD k 0 < 0 then -x.v.getD k 0 else x.v.getD k 0) = av x.v k from rfl]
    refine exUp up9 ?_; refine WSs_if ?_; refine WB_CmpR .int ?_; refine WE_BinL (.name mem9) ?_; refine WE_BinR .int ?_; refine WE_ev (.name mem3) ?_; refine add_ii ?_
    refine shr_ii (by lia) ?_
    refine gt_ii ?_; refine WTr_bool ?_
    rw [show ((x.p : Int) + 1).toNat = x.p + 1 by lia, gt_shr _ av0]
    refine ite_b (fun hg => ?_) fun hg => ?_
    · have hg' := of_decide_eq_true hg
      have e2 : x.ev2 k = [(kMore, (av x.v k).fdiv (2 ^ x.p) % 2)] := by unfold Plx.ev2; rw [if_pos hg']
      rw [e2] at evn
      refine WSs_expr ?_
      refine WE_meth ?_
      refine WE_ev (.name mem0) ?_
      refine WM_inst (f := 203) c.K clsW (by kernel_rfl) (by kernel_rfl) hl.wr.l.inst hl.wr.l.ns (by kernel_rfl) ⟨callable_K c.K (by kernel_rfl), ?_⟩
      refine WL_consE .str ?_; refine WL_cons ?_; refine WE_BinR .int ?_; refine WE_BinR (.name mem3) ?_; refine WE_ev (.name mem9) ?_
      refine shr_ii (by lia) ?_
      rw [Int.toNat_natCast]
      refine and_ii ?_
      rw [show Builtin.bitAnd ((av x.v k).fdiv (2 ^ x.p)) 1 = (av x.v k).fdiv (2 ^ x.p) % 2 from ck.and1]
      refine WL_ev .nil ?_
      refine wl_put (k := kMore) (t := 0) c rm.le hl hrs (by simp; lia) rfl ck.bit ?_
      intro J3 rs3 hl3 hrs3
      refine WSs_nil ?_; refine Thn_next ?_; refine WSs_nil ?_; refine hOf (by assumption) ?_; refine LoopPost_next ?_
      exact ⟨J3, rs3, _, _, _, _, _, _, rfl, by rw [evn]; exact hl3, by rw [evn]; exact hrs3, rfl⟩
    · have hg' := of_decide_eq_false hg
      have e2 : x.ev2 k = [] := by unfold Plx.ev2; rw [if_neg hg']
      rw [e2, List.append_nil] at evn
      refine WSs_nil ?_; refine Thn_next ?_; refine WSs_nil ?_; refine hOf (by assumption) ?_; refine LoopPost_next ?_
      exact ⟨J, rs, _, _, _, _, _, _, rfl, by rw [evn]; exact hl, by rw [evn]; exact hrs, rfl⟩
  · rintro ρ' σ' ⟨J, rs, a1, a2, a3, a4, a5, a6, rfl, hl, hrs, rfl⟩
    refine ⟨trivial, ?_⟩
    refine Thn_next ?_; refine WSs_nil ?_; refine hOf (by assumption) ?_
    exact hq J rs hl.wr
end Mine

-- part E15k
set_option linter.unusedVariables false
namespace Mine
open PySem PySem.W PyProof.Rows
theorem RrAt.up {σ J : AH} {b : Nat} {bs : List Int} {rs : RW} {d : Dec} {M : Cts} (h : RrAt σ b bs rs d M) : RrAt (σ ++ J) b bs rs d M := by
  have lt : ∀ {i : Nat} {o : O}, σ[i]? = some o → (σ ++ J)[i]? = σ[i]? := fun h => List.getElem?_append_left (List.getElem?_eq_some_iff.mp h).1
  exact ⟨⟨gl_up h.r.ns, gl_up h.r.inst, Nat.le_refl _, fun _ _ _ => rfl⟩, h.mod.frame (lt h.mod.ns) (lt h.mod.inst) (lt h.mod.dict) (fun e he => lt (h.mod.rows e he)) fun i xs hi => gl_up hi⟩
theorem RrAt.other {σ : AH} {b : Nat} {bs : List Int} {rs : RW} {d : Dec} {M : Cts} {j : Nat} {xs : List V} {o : O} (h : RrAt σ b bs rs d M) (hj : j < b ∨ b + 4 < j) (hl : σ[j]? = some (.list xs)) (hr : ∀ e ∈ rs, e.2.2 ≠ j) : RrAt (σ.set j o) b bs rs d M := by
  have ne : ∀ {i : Nat}, i ≠ j → (σ.set j o)[i]? = σ[i]? := fun hi => List.getElem?_set_ne (Ne.symm hi)
  refine ⟨⟨(ne (by lia)).trans h.r.ns, (ne (by lia)).trans h.r.inst, Nat.le_refl _, fun _ _ _ => rfl⟩, h.mod.frame (ne (by lia)) (ne (by lia)) (ne (by lia)) (fun e he => ne (hr e he)) fun i ys hi => ?_⟩
  rw [ne (fun q => by rw [q, hl] at hi; cases hi)]; exact hi
/-- the reader, the numbers known, and two lists of read_plane's own -/
structure RLp (σs σb J : AH) (κ b ci bi : Nat) (all evs : List Ev) (kn be : List Int) (cov : List Bool) (rs : RW) : Prop where
  rr : ∃ d, RrAt (σb ++ J) b (bytesOf (wst all).1.fin) rs d (wst evs).2 ∧ DOk d (wst evs).1 (strOf all)
  k : (σb ++ J)[κ]? = some (.list (kn.map .int))
  c : (σb ++ J)[ci]? = some (.list (cov.map .bool))
  e : (σb ++ J)[bi]? = some (.list (be.map .int))
  lo : σb.length ≤ κ
  kb : κ < b
  cb : b + 4 < ci
  cc : ci < bi
  ru : ∀ e ∈ rs, b + 4 < e.2.2 ∧ e.2.2 ≠ ci ∧ e.2.2 ≠ bi
  n : rs.length ≤ 2 * evs.length
  s : ∀ i, i < b → i ≠ κ → (σb ++ J)[i]? = σs[i]?
theorem RLp.up {σs σb J J2 : AH} {κ b ci bi : Nat} {all evs : List Ev} {kn be : List Int} {cov : List Bool} {rs : RW} (h : RLp σs σb J κ b ci bi all evs kn be cov rs) : RLp σs σb (J ++ J2) κ b ci bi all evs kn be cov rs := by
  obtain ⟨d, r, dk⟩ := h.rr
  have r' := r.up (J := J2)
  have h1 := gl_up (J := J2) h.k
  have h2 := gl_up (J := J2) h.c
  have h3 := gl_up (J := J2) h.e
  rw [List.append_assoc] at r' h1 h2 h3
  exact ⟨⟨d, r', dk⟩, h1, h2, h3, h.lo, h.kb, h.cb, h.cc, h.ru, h.n, fun i hi hne => by
    rw [← List.append_assoc, List.getElem?_append_left (by have := (List.getElem?_eq_some_iff.mp h.c).1; have := h.cb; lia)]; exact h.s i hi hne⟩
theorem RLp.setC {σs σb J : AH} {κ b ci bi : Nat} {all evs : List Ev} {kn be : List Int} {cov : List Bool} {rs : RW} (h : RLp σs σb J κ b ci bi all evs kn be cov rs) (cov' : List Bool) : ∃ J', (σb ++ J).set ci (.list (cov'.map .bool)) = σb ++ J' ∧ RLp σs σb J' κ b ci bi all evs kn be cov' rs := by
  have lo := h.lo
  have kb := h.kb
  have cb := h.cb
  have cc := h.cc
  obtain ⟨d, r, dk⟩ := h.rr
  have hl := (List.getElem?_eq_some_iff.mp h.c).1
  have e : (σb ++ J).set ci (.list (cov'.map .bool)) = σb ++ J.set (ci - σb.length) (.list (cov'.map .bool)) := List.set_append_right _ _ (by lia)
  refine ⟨_, e, ?_⟩
  have r' := r.other (o := .list (cov'.map .bool)) (.inr cb) h.c fun e he => (h.ru e he).2.1
  have h1 : ((σb ++ J).set ci (.list (cov'.map .bool)))[κ]? = _ := (List.getElem?_set_ne (by lia)).trans h.k
  have h2 : ((σb ++ J).set ci (.list (cov'.map .bool)))[ci]? = some (.list (cov'.map .bool)) := List.getElem?_set_self hl
  have h3 : ((σb ++ J).set ci (.list (cov'.map .bool)))[bi]? = _ := (List.getElem?_set_ne (by lia)).trans h.e
  have h4 : ∀ i, i < b → i ≠ κ → ((σb ++ J).set ci (.list (cov'.map .bool)))[i]? = σs[i]? := fun i hi hne => (List.getElem?_set_ne (by lia)).trans (h.s i hi hne)
  rw [e] at r' h1 h2 h3 h4
  exact ⟨⟨d, r', dk⟩, h1, h2, h3, lo, kb, cb, cc, h.ru, h.n, h4⟩
theorem RLp.setK {σs σb J : AH} {κ b ci bi : Nat} {all evs : List Ev} {kn be : List Int} {cov : List Bool} {rs : RW} (h : RLp σs σb J κ b ci bi all evs kn be cov rs) (kn' : List Int) : ∃ J', (σb ++ J).set κ (.list (kn'.map .int)) = σb ++ J' ∧ RLp σs σb J' κ b ci bi all evs kn' be cov rs := by
  have lo := h.lo
  have kb := h.kb
  have cb := h.cb
  have cc := h.cc
  obtain ⟨d, r, dk⟩ := h.rr
  have hl := (List.getElem?_eq_some_iff.mp h.k).1
  have e : (σb ++ J).set κ (.list (kn'.map .int)) = σb ++ J.set (κ - σb.length) (.list (kn'.map .int)) := List.set_append_right _ _ (by lia)
  refine ⟨_, e, ?_⟩
  have r' := r.other (o := .list (kn'.map .int)) (.inl kb) h.k fun e he => by have := (h.ru e he).1; lia
  have h1 : ((σb ++ J).set κ (.list (kn'.map .int)))[κ]? = some (.list (kn'.map .int)) := List.getElem?_set_self hl
  have h2 : ((σb ++ J).set κ (.list (kn'.map .int)))[ci]? = _ := (List.getElem?_set_ne (by lia)).trans h.c
  have h3 : ((σb ++ J).set κ (.list (kn'.map .int)))[bi]? = _ := (List.getElem?_set_ne (by lia)).trans h.e
  have h4 : ∀ i, i < b → i ≠ κ → ((σb ++ J).set κ (.list (kn'.map .int)))[i]? = σs[i]? := fun i hi hne => (List.getElem?_set_ne (Ne.symm hne)).trans (h.s i hi hne)
  rw [e] at r' h1 h2 h3 h4
  exact ⟨⟨d, r', dk⟩, h1, h2, h3, lo, kb, cb, cc, h.ru, h.n, h4⟩
theorem fin_len {e : Enc} (i : EInv e) : e.fin.length = e.k + 2 := by have := i.k; unfold Enc.fin; split <;> simp <;> lia
theorem rl_get {C : Cx} {A : Around} {σs σb J : AH} {E : EX} {Q : V → AH → Prop} {κ b ci bi t : Nat} {all evs post : List Ev} {kn be : List Int} {cov : List Bool} {rs : RW} {k : MK} {kv : V} {bit : Int} (c : Law C) (rm : Room A 3) (h : RLp σs σb J κ b ci bi all evs kn be cov rs) (hall : all.length ≤ 200) (he : all = evs ++ (k, bit) :: post) (hk : KeyV (σb ++ J) k t kv) (hb : bit = 0 ∨ bit = 1)
    (hq : ∀ J' rs', RLp σs σb J' κ b ci bi all (evs ++ [(k, bit)]) kn be cov rs' → Q (.int bit) (σb ++ J')) : WC C A (.ref 245) [.ref (b + 1), kv] (σb ++ J) Q E := by
  obtain ⟨d, r, dk⟩ := h.rr
  have lo := h.lo
  have kb := h.kb
  have cb := h.cb
  have cc := h.cc
  have hn := h.n
  have hev : evs.length ≤ 200 := by rw [he, List.length_append] at hall; lia
  have lt : ∀ {i : Nat} {o : O}, (σb ++ J)[i]? = some o → i < (σb ++ J).length := fun h => (List.getElem?_eq_some_iff.mp h).1
  have wa := wst_ok all
  have we := wst_ok evs
  have ka := wst_k all
  have ke := wst_k evs
  obtain ⟨rb, dk'⟩ := read_bit (ev := (k, bit)) he hb dk
  refine get_spec (mid := midOf ((wst evs).2 k) d.low d.high) c rm r (fin_bits wa.r.inv) (by rw [fin_len wa.r.inv]; lia) (by lia) hk (we.m k) dk we.r (by lia) rfl rb hb ?_
  intro σ' rs' r' x
  have e : σ' = σb ++ σ'.drop σb.length := by
    refine pre_of (J := J) ?_ fun i hi => ?_
    · have := x.len; rw [List.length_append] at this; lia
    · exact x.same i (by rw [List.length_append]; lia) (by lia) (by lia) fun e he => by have := (h.ru e he).1; lia
  rw [e]
  refine hq _ rs' ⟨⟨_, ?_, dk'⟩, ?_, ?_, ?_, lo, kb, cb, cc, fun e' he' => ?_, ?_, fun i hi hne => ?_⟩
  · rw [← e]
    have hM : (wst (evs ++ [(k, bit)])).2 = noted (wst evs).2 k bit := by rw [wst_snoc]; rfl
    rw [hM]; exact r'
  · rw [← e, x.same κ (lt h.k) (by lia) (by lia) fun e he q => by have := (h.ru e he).1; lia]; exact h.k
  · rw [← e, x.same ci (lt h.c) (by lia) (by lia) fun e he q => (h.ru e he).2.1 q.symm]; exact h.c
  · rw [← e, x.same bi (lt h.e) (by lia) (by lia) fun e he q => (h.ru e he).2.2 q.symm]; exact h.e
  · rcases x.new e' he' with h' | h'
    · exact h.ru e' h'
    · have := lt h.c; have := lt h.e; lia
  · have := x.cnt; rw [List.length_append]; simp; lia
  · rw [← e, x.same i (by have := lt h.c; lia) (by lia) (by lia) fun e he q => by have := (h.ru e he).1; lia]; exact h.s i hi hne
theorem RLp.wm {C : Cx} {A : Around} {σs σb J : AH} {E : EX} {K : Value → List V → AH → Prop} {κ b ci bi : Nat} {all evs : List Ev} {kn be : List Int} {cov : List Bool} {rs : RW} (c : Law C) (h : RLp σs σb J κ b ci bi all evs kn be cov rs) (hk : K (.ref 245) [.ref (b + 1)] (σb ++ J)) : WM C A (.ref (b + 1)) (Str.ofString "get") (σb ++ J) K E := by
  obtain ⟨d, r, _⟩ := h.rr
  exact WM_inst (f := 245) c.K clsR (by kernel_rfl) (by kernel_rfl) r.r.inst r.r.ns (by kernel_rfl) hk
/- what is known -/
noncomputable def kn1 (x : Plx) (k : Nat) : List Int := (List.range x.n).map fun j => if j < k then r1 (x.v.getD j 0) x.p else cutv (x.v.getD j 0) (x.p + 1)
noncomputable def kn2 (x : Plx) (k : Nat) : List Int := (List.range x.n).map fun j => if j < k then cutv (x.v.getD j 0) x.p else r1 (x.v.getD j 0) x.p
theorem kn1_get {x : Plx} {k j : Nat} (hj : j < x.n) : (kn1 x k).getD j 0 = if j < k then r1 (x.v.getD j 0) x.p else cutv (x.v.getD j 0) (x.p + 1) := by simp [kn1, List.getD, hj]
theorem kn2_get {x : Plx} {k j : Nat} (hj : j < x.n) : (kn2 x k).getD j 0 = if j < k then cutv (x.v.getD j 0) x.p else r1 (x.v.getD j 0) x.p := by simp [kn2, List.getD, hj]
theorem map_range_set {n k : Nat} {f g : Nat → Int} (h : ∀ j, j < n → g j = if j = k then g k else f j) : ((List.range n).map f).set k (g k) = (List.range n).map g := by
  refine List.ext_getElem? fun i => ?_
  by_cases hi : i = k
  · subst hi
    by_cases hn : i < n
    · rw [List.getElem?_set_self (by simpa using hn)]; simp [hn]
    · rw [List.getElem?_eq_none (by simp; lia), List.getElem?_eq_none (by simp; lia)]
  · rw [List.getElem?_set_ne (Ne.symm hi)]
    by_cases hn : i < n
    · have := h i hn
      rw [if_neg hi] at this
      simp [hn, this]
    · rw [List.getElem?_eq_none (by simp; lia), List.getElem?_eq_none (by simp; lia)]
theorem kn1_set (x : Plx) (k : Nat) : (kn1 x k).set k (r1 (x.v.getD k 0) x.p) = kn1 x (k + 1) := by
  have := map_range_set (n := x.n) (k := k) (f := fun j => if j < k then r1 (x.v.getD j 0) x.p else cutv (x.v.getD j 0) (x.p + 1)) (g := fun j => if j < k + 1 then r1 (x.v.getD j 0) x.p else cutv (x.v.getD j 0) (x.p + 1)) fun j hj => by
    by_cases h : j = k
    · subst h; simp
    · rw [if_neg h]
      by_cases h2 : j < k
      · rw [if_pos h2, if_pos (by lia)]
      · rw [if_neg h2, if_neg (by lia)]
  simpa [kn1] using this
theorem kn2_set (x : Plx) (k : Nat) : (kn2 x k).set k (cutv (x.v.getD k 0) x.p) = kn2 x (k + 1) := by
  have := map_range_set (n := x.n) (k := k) (f := fun j => if j < k then cutv (x.v.getD j 0) x.p else r1 (x.v.getD j 0) x.p) (g := fun j => if j < k + 1 then cutv (x.v.getD j 0) x.p else r1 (x.v.getD j 0) x.p) fun j hj => by
    by_cases h : j = k
    · subst h; simp
    · rw [if_neg h]
      by_cases h2 : j < k
      · rw [if_pos h2, if_pos (by lia)]
      · rw [if_neg h2, if_neg (by lia)]
  simpa [kn2] using this
theorem set_getD {l : List Int} {k : Nat} (h : k < l.length) : l.set k (l.getD k 0) = l := by
  rw [List.getD, List.getElem?_eq_getElem h]
  exact List.set_getElem_self h
theorem kn1_same {x : Plx} {k : Nat} (hk : k < x.n) (h : r1 (x.v.getD k 0) x.p = cutv (x.v.getD k 0) (x.p + 1)) : kn1 x (k + 1) = kn1 x k := by
  rw [← kn1_set, h]
  have := kn1_get (x := x) (k := k) hk
  rw [if_neg (by lia)] at this
  rw [← this]; exact set_getD (by simpa [kn1] using hk)
theorem kn2_same {x : Plx} {k : Nat} (hk : k < x.n) (h : r1 (x.v.getD k 0) x.p = cutv (x.v.getD k 0) x.p) : kn2 x (k + 1) = kn2 x k := by
  rw [← kn2_set, ← h]
  have := kn2_get (x := x) (k := k) hk
  rw [if_neg (by lia)] at this
  rw [← this]; exact set_getD (by simpa [kn2] using hk)
theorem kn12 (x : Plx) : kn1 x x.n = kn2 x 0 := by
  unfold kn1 kn2
  refine List.map_congr_left fun j hj => ?_
  rw [if_pos (List.mem_range.mp hj), if_neg (by lia)]
theorem map_getD_range (v : List Int) (f : Int → Int) : (List.range v.length).map (fun j => f (v.getD j 0)) = v.map f := by
  refine List.ext_getElem? fun i => ?_
  by_cases hi : i < v.length
  · simp [hi, List.getD]
  · rw [List.getElem?_eq_none (by simp; lia), List.getElem?_eq_none (by simp; lia)]
theorem kn1_start {x : Plx} (h : x.v.length = x.n) : kn1 x 0 = x.v.map (cutv · (x.p + 1)) := by
  rw [← map_getD_range x.v (cutv · (x.p + 1)), h]; rfl
theorem kn2_end {x : Plx} (h : x.v.length = x.n) : kn2 x x.n = x.v.map (cutv · x.p) := by
  rw [← map_getD_range x.v (cutv · x.p), h]
  unfold kn2
  refine List.map_congr_left fun j hj => ?_
  rw [if_pos (List.mem_range.mp hj)]
end Mine

-- part E15l
set_option linter.unusedVariables false
namespace Mine
open PySem PySem.W PyProof.Rows
theorem read_spec {C : Cx} {A : Around} {σb J : AH} {E : EX} {Q : V → AH → Prop} {κ b t W H L p : Nat} {v : List Int} (c : Law C) (rm : Room A 5) (T : TreeAt C σb t W H L) (tok : TreeOk W H L) (hn : W * H ≤ 36) (lv : v.length = W * H) (ok : (pxOf W H L v p).Ok) (lo : σb.length ≤ κ) (kb : κ < b)
    (hk0 : (σb ++ J)[κ]? = some (.list ((v.map (cutv · (p + 1))).map .int))) (hr : ∃ d, RrAt (σb ++ J) b (bytesOf (wst (pxOf W H L v p).all).1.fin) [] d cts0 ∧ DOk d enc0 (strOf (pxOf W H L v p).all))
    (hq : ∀ J', (σb ++ J')[κ]? = some (.list ((v.map (cutv · p)).map .int)) → (∀ i, i < b → i ≠ κ → (σb ++ J')[i]? = (σb ++ J)[i]?) → Q .none (σb ++ J')) : WC C A (.ref 128) [.ref (b + 1), .ref t, .ref κ, .int p] (σb ++ J) Q E := by
  refine WC_def (pn := [Str.ofString "reader", Str.ofString "trees", Str.ofString "known", Str.ofString "plane"]) (ln := [Str.ofString "bound", Str.ofString "covered", Str.ofString "before", Str.ofString "k", Str.ofString "up", Str.ofString "near"]) (gl := [(Str.ofString "len", Value.builtin "len"), (Str.ofString "range", Value.type "range"), (Str.ofString "abs", Value.builtin "abs"), (Str.ofString "list", Value.type "list")]) (dv := []) (ds := []) (c.K _ _ rfl) rfl (codeRec_of c.K (by kernel_rfl)) (by first | exact Room.dep0 (by assumption) | assumption | lia | exact Nat.le_of_ble_eq_true rfl) .nil rfl (fun x v h => c.glo x v ((show ∀ p ∈ ([(Str.ofString "len", Value.builtin "len"), (Str.ofString "range", Value.type "range"), (Str.ofString "abs", Value.builtin "abs"), (Str.ofString "list", Value.type "list")] : List (Str × Value)), p ∈ lawGlo by decide +kernel) (x, v) h)) ?_ (by decide +kernel) (by decide +kernel) (by decide +kernel) (by decide +kernel) ?_
  · intro s xs hkp hl
    obtain ⟨x0, x1, x2, x3, rfl⟩ := len4 hl
    first | exact BindsTo.of_eq rfl | exact BindsTo.of_defaults rfl (hkp _ _ (c.K _ _ rfl)) rfl rfl rfl
  intro env henv
  replace c := c.wg [(Str.ofString "len", Value.builtin "len"), (Str.ofString "range", Value.type "range"), (Str.ofString "abs", Value.builtin "abs"), (Str.ofString "list", Value.type "list")]
  show WSs (C.wg [(Str.ofString "len", Value.builtin "len"), (Str.ofString "range", Value.type "range"), (Str.ofString "abs", Value.builtin "abs"), (Str.ofString "list", Value.type "list")]) _ _ _ [(Str.ofString "reader", some (.ref (b + 1))), (Str.ofString "trees", some (.ref t)), (Str.ofString "known", some (.ref κ)), (Str.ofString "plane", some (.int p)), (Str.ofString "bound", none), (Str.ofString "covered", none), (Str.ofString "before", none), (Str.ofString "k", none), (Str.ofString "up", none), (Str.ofString "near", none)] _ _ _
  refine WSs_opqF fun _ _ _ => ?_
  have rm := rm.deep (env := env)
  have zn : W * H ≤ 100000 := Nat.le_trans hn (Nat.le_of_ble_eq_true rfl)
  obtain ⟨d, js, jp, jd, jc, h1, h2, h3, h4, h5, h6⟩ := T.ex
  obtain ⟨x, hx⟩ : ∃ x, x = pxOf W H L v p := ⟨_, rfl⟩
  rw [← hx] at ok hr
  have xn : W * H = x.n := by rw [hx]; rfl
  have xP : psM W H L (3 * L) = x.P := by rw [hx]; rfl
  have xD : dsM W H L (3 * L) = x.D := by rw [hx]; rfl
  have xv : v = x.v := by rw [hx]; rfl
  have xp : p = x.p := by rw [hx]; rfl
  have xk : ∀ k, x.kn k = decide (0 < (kids x.P k).length) := fun k => by rw [hx]; rfl
  have lP : x.P.length = x.n := by rw [← xP, psM_len, tok.tot, xn]
  have lD : x.D.length = x.n := by rw [← xD, dsM_len, tok.tot, xn]
  rw [xP] at h4 h6
  rw [xD] at h5
  rw [xn] at h6 hn lv zn
  rw [xv] at lv
  have hp5 : x.p ≤ 5 := ok.p
  clear hx xP xD T h3
  subst xp xv
  have e0 : kn1 x 0 = x.v.map (cutv · (x.p + 1)) := kn1_start lv
  rw [← e0] at hk0
  have lk : ∀ k, (kn1 x k).length = x.n := fun k => by simp [kn1]
  have lk2 : ∀ k, (kn2 x k).length = x.n := fun k => by simp [kn2]
  have hall : x.all.length ≤ 200 := by have := x.all_len; lia
  obtain ⟨d0, rr, dk0⟩ := hr
  have hbl := (List.getElem?_eq_some_iff.mp rr.mod.dict).1
  refine WSs_asgW ?_; refine WE_BinR (.name mem3) ?_; refine WE_ev .int ?_
  refine shl_ii (by lia) (by lia) (by decide) ?_
  rw [Int.one_mul, Int.toNat_natCast]
  refine exUp up4 ?_; refine WSs_asgW ?_; refine WE_BinOp ?_; refine WE_List ?_; refine WL_consE .bool ?_; refine WL_ev .nil ?_; refine szAnd ?_
  refine WE_call (C := C) mem0 callable_builtin ?_
  refine WL_consE (.name mem2) ?_; refine WL_ev .nil ?_
  refine WC_lenI (show ObjAt _ _ (.ref κ) _ from gl_up hk0) (lk 0) zn ?_
  refine mul_li (x := (x.n : Int)) (xs := [.bool false]) (ObjAt.new (C := C) rfl) (by lia) (by lia) (by simp; lia) ?_
  rw [rep_one, Int.toNat_natCast]
  have ecv : List.replicate x.n (V.bool false) = (x.cov 0).map .bool := by simp [Plx.cov]
  rw [ecv]
  refine exUp up5 ?_; refine WSs_asgW ?_
  refine WE_call (C := C) mem3 callable_type ?_
  refine WL_consE (.name mem2) ?_; refine WL_ev .nil ?_
  refine WC_list (show ObjAt _ _ (.ref κ) _ from gl_up (gl_up hk0)) (by have e3 : sizeLine = 16777216 := rfl; rw [List.length_map, lk]; lia) ?_
  have eH : σb ++ J ++ [O.list [V.bool false]] ++ [O.list ((x.cov 0).map V.bool)] ++ [O.list ((kn1 x 0).map V.int)] = σb ++ (J ++ [O.list [V.bool false]] ++ [O.list ((x.cov 0).map V.bool)] ++ [O.list ((kn1 x 0).map V.int)]) := by simp
  have eC : (σb ++ J ++ [O.list [V.bool false]]).length = (σb ++ J).length + 1 := by simp [Nat.add_assoc]
  have eB : (σb ++ J ++ [O.list [V.bool false]] ++ [O.list ((x.cov 0).map V.bool)]).length = (σb ++ J).length + 2 := by simp [Nat.add_assoc]
  rw [eC, eB, eH]
  have hl0 : RLp (σb ++ J) σb (J ++ [O.list [V.bool false]] ++ [O.list ((x.cov 0).map V.bool)] ++ [O.list ((kn1 x 0).map V.int)]) κ b ((σb ++ J).length + 1) ((σb ++ J).length + 2) x.all (x.evs1 0) (kn1 x 0) (kn1 x 0) (x.cov 0) [] := by
    have e7 : σb ++ J ++ [O.list [V.bool false]] ++ [O.list ((x.cov 0).map V.bool)] ++ [O.list ((kn1 x 0).map V.int)] = σb ++ J ++ [O.list [V.bool false], O.list ((x.cov 0).map V.bool), O.list ((kn1 x 0).map V.int)] := by simp
    refine ⟨⟨d0, ?_, dk0⟩, ?_, ?_, ?_, lo, kb, by lia, by lia, fun e he => (nomatch he), Nat.zero_le _, fun i hi hne => ?_⟩
    · rw [← eH, e7]; exact rr.up
    · rw [← eH, e7]; exact gl_up hk0
    · rw [← eH, e7, List.getElem?_append_right (by lia)]; simp
    · rw [← eH, e7, List.getElem?_append_right (by lia)]; simp
    · rw [← eH, e7, List.getElem?_append_left (by lia)]
  generalize hσs : σb ++ J = σs at hl0 hq
  generalize σs.length + 1 = ci at *
  generalize σs.length + 2 = bi at *
  generalize J ++ [O.list [V.bool false]] ++ [O.list ((x.cov 0).map V.bool)] ++ [O.list ((kn1 x 0).map V.int)] = J0 at *
  clear eH eC eB ecv rr dk0 hbl hk0
  refine exUp up6 ?_; refine WSs_cons ?_
  refine WS_for (WItr_rng rm.han mem1 ?_)
  refine WL_cons ?_
  refine WE_call (C := C) mem0 callable_builtin ?_
  refine WL_consE (.name mem2) ?_; refine WL_ev .nil ?_
  refine WC_lenI (show ObjAt _ _ (.ref κ) _ from hl0.k) (lk 0) zn ?_
  refine WL_ev .nil ?_
  refine exRng zn ?_
  refine ⟨fun k ρ' σ' => Ex5 fun J rs a1 a2 a3 => And3 (σ' = σb ++ J) (RLp σs σb J κ b ci bi x.all (x.evs1 k) (kn1 x k) (kn1 x 0) (x.cov k) rs) (ρ' = ([(Str.ofString "reader", (some (.ref (b + 1)))), (Str.ofString "trees", (some (.ref t))), (Str.ofString "known", (some (.ref κ))), (Str.ofString "plane", (some (.int x.p))), (Str.ofString "bound", (some (.int (2 ^ x.p)))), (Str.ofString "covered", (some (.ref ci))), (Str.ofString "before", (some (.ref bi))), (Str.ofString "k", a1), (Str.ofString "up", a2), (Str.ofString "near", a3)] : Loc)), ⟨J0, [], _, _, _, rfl, hl0, rfl⟩, ?_, ?_⟩
  · rintro k ρ' σ' hk ⟨J, rs, a1, a2, a3, rfl, hl, rfl⟩
    refine ⟨trivial, ?_⟩
    have up := ok.up k hk
    have kP : k < x.P.length := by rw [lP]; exact hk
    have kD : k < x.D.length := by rw [lD]; exact hk
    have zP : x.P.length ≤ 100000 := by rw [lP]; exact zn
    have zD : x.D.length ≤ 100000 := by rw [lD]; exact zn
    have zk : (kn1 x k).length ≤ 100000 := by rw [lk]; exact zn
    have lC := x.cov_len k
    have cvn : x.cov (k + 1) = (x.cov k).set k (x.ev1 (x.cov k) k).1 := rfl
    have evn : x.evs1 (k + 1) = x.evs1 k ++ (x.ev1 (x.cov k) k).2 := rfl
    have cs : (x.cov k).set k false = x.cov k := set_same (x.cov_later (Nat.le_refl k))
    have ck := ok.cut k
    obtain ⟨post, hpost⟩ := x.all1 hk
    have kz : (kn1 x 0).getD k 0 = cutv (x.v.getD k 0) (x.p + 1) := by rw [kn1_get hk, if_neg (by lia)]
    have pw : (2 : Int) ^ x.p ≤ 2 ^ (x.p + 1) := by rw [Int.pow_succ]; have : (0 : Int) < 2 ^ x.p := Int.pow_pos (by decide); lia
    refine WAs_opq fun _ _ _ => ?_; refine WAs_name up7 ?_; refine WSs_asgW ?_; refine WE_SubR (.name mem7) ?_; refine WE_attrN mem1 ?_
    refine at_parents c (gl_up h1) (gl_up h2) ?_
    refine item_intN (show ObjAt _ _ (.ref jp) _ from gl_up h4) zP kP ?_
    apply exUp
    focus exact up8
    try refine Thn_next ?_
    refine WSs_cons ?_
    by_cases hc : 0 ≤ x.P.getD k 0 ∧ (x.cov k).getD (x.P.getD k 0).toNat false = true
    · have e1 : x.ev1 (x.cov k) k = (true, []) := by unfold Plx.ev1; rw [if_pos hc]
      have hsm := (Plx.covered ok k hk (by rw [e1])).1
      rw [av_avi] at hsm
      rw [e1] at cvn evn
      have ks : kn1 x (k + 1) = kn1 x k := kn1_same hk (by
        rw [r1, if_neg (by lia), if_neg (by lia), ck.z.mpr (by lia)])
      refine WS_if ?_; refine WB_and ?_; refine WB_CmpR .int ?_; refine WE_ev (.name mem8) ?_; refine ge_ii ?_; refine WTr_bool ?_
      refine ite_t (decide_eq_true hc.1) ?_
      refine WB_and ?_
      refine WB_plain ?_
      refine WE_SubR (.name mem8) ?_; refine WE_ev (.name mem5) ?_
      refine item_list (show ObjAt _ _ (.ref ci) _ from hl.c) hc.1 (by lia) (bool_at (by lia)) ?_
      rw [hc.2]
      refine WTr_bool ?_; refine WB_and_nil ?_; refine WSs_cons ?_; refine WS_setitem ?_; refine WE_ev .bool ?_; refine WE_ev (.name mem5) ?_; refine WE_ev (.name mem7) ?_
      refine seti_list hl.c (by lia) (by lia) (by rw [List.length_map, lC]; lia) ?_
      rw [Int.toNat_natCast, ← List.map_set]
      obtain ⟨J', eJ, hl'⟩ := hl.setC ((x.cov k).set k true)
      rw [eJ]
      refine Thn_next ?_; refine WSs_cons ?_; refine WS_continue ?_; refine Thn_cont ?_; refine Thn_cont ?_; refine hOf (by assumption) ?_; refine LoopPost_cont ?_
      exact ⟨J', rs, _, _, _, rfl, by rw [cvn, evn, List.append_nil, ks]; exact hl', rfl⟩
    refine WS.conseqI (Q := fun fl ρ' σ' => fl = .next ∧ σ' = σb ++ J ∧ ρ' = ([(Str.ofString "reader", (some (.ref (b + 1)))), (Str.ofString "trees", (some (.ref t))), (Str.ofString "known", (some (.ref κ))), (Str.ofString "plane", (some (.int x.p))), (Str.ofString "bound", (some (.int (2 ^ x.p)))), (Str.ofString "covered", (some (.ref ci))), (Str.ofString "before", (some (.ref bi))), (Str.ofString "k", (some (.int (k : Nat)))), (Str.ofString "up", (some (.int (x.P.getD k 0)))), (Str.ofString "near", a3)] : Loc)) (fun _ _ => ?_) ?_
    · by_cases h0 : 0 ≤ x.P.getD k 0
      · have hcf : (x.cov k).getD (x.P.getD k 0).toNat false = false := by
          cases hq : (x.cov k).getD (x.P.getD k 0).toNat false
          · rfl
          · exact absurd ⟨h0, hq⟩ hc
        refine WS_if ?_; refine WB_and ?_; refine WB_CmpR .int ?_; refine WE_ev (.name mem8) ?_; refine ge_ii ?_; refine WTr_bool ?_
        refine ite_t (decide_eq_true h0) ?_
        refine WB_and ?_
        refine WB_plain ?_
        refine WE_SubR (.name mem8) ?_; refine WE_ev (.name mem5) ?_
        refine item_list (show ObjAt _ _ (.ref ci) _ from hl.c) h0 (by lia) (bool_at (by lia)) ?_
        rw [hcf]
        refine WTr_bool ?_; refine WSs_nil ?_; refine hOf (by assumption) ?_
        exact ⟨rfl, rfl, rfl⟩
      · refine WS_if ?_; refine WB_and ?_; refine WB_CmpR .int ?_; refine WE_ev (.name mem8) ?_; refine ge_ii ?_; refine WTr_bool ?_
        refine ite_f (decide_eq_false h0) ?_
        refine WSs_nil ?_; refine hOf (by assumption) ?_
        exact ⟨rfl, rfl, rfl⟩
    rintro fl ρ' σ' ⟨rfl, rfl, rfl⟩
    refine Thn_next ?_; refine WSs_if ?_; refine WB_CmpR .int ?_; refine WE_SubR (.name mem7) ?_; refine WE_ev (.name mem6) ?_
    refine item_intN (show ObjAt _ _ (.ref bi) _ from hl.e) (by rw [lk]; exact zn) (by rw [lk]; exact hk) ?_
    rw [kz]
    refine ne_ii ?_; refine WTr_bool ?_
    refine ite_b (fun hg => ?_) fun hg => ?_
    · have hne : cutv (x.v.getD k 0) (x.p + 1) ≠ 0 := by simpa using hg
      have hg' : 2 ^ (x.p + 1) ≤ av x.v k := Classical.byContradiction fun q => hne (ck.z.mpr q)
      have e1 : x.ev1 (x.cov k) k = (false, []) := by unfold Plx.ev1; rw [if_neg hc, if_pos hg']
      rw [e1, cs] at cvn
      rw [e1, List.append_nil] at evn
      have ks : kn1 x (k + 1) = kn1 x k := kn1_same hk (by rw [r1, ← av_avi x.v k, if_pos hg'])
      refine WSs_cons ?_; refine WS_continue ?_; refine Thn_cont ?_; refine Thn_cont ?_; refine hOf (by assumption) ?_; refine LoopPost_cont ?_
      exact ⟨J, rs, _, _, _, rfl, by rw [cvn, evn, ks]; exact hl, rfl⟩
    have hz0 : cutv (x.v.getD k 0) (x.p + 1) = 0 := by simpa using hg
    have hg' : ¬ 2 ^ (x.p + 1) ≤ av x.v k := ck.z.mp hz0
    repeat (first | refine WSs_nil ?_ | refine Thn_next ?_ | refine WSs_cons ?_)
    refine WS.conseqI (Q := fun fl ρ' σ' => fl = .next ∧ σ' = σb ++ J ∧ ρ' = ([(Str.ofString "reader", (some (.ref (b + 1)))), (Str.ofString "trees", (some (.ref t))), (Str.ofString "known", (some (.ref κ))), (Str.ofString "plane", (some (.int x.p))), (Str.ofString "bound", (some (.int (2 ^ x.p)))), (Str.ofString "covered", (some (.ref ci))), (Str.ofString "before", (some (.ref bi))), (Str.ofString "k", (some (.int (k : Nat)))), (Str.ofString "up", (some (.int (x.P.getD k 0)))), (Str.ofString "near", (some (.int (x.near k))))] : Loc)) (fun _ _ => ?_) ?_
    · by_cases h0 : 0 ≤ x.P.getD k 0
      · obtain ⟨u, hu⟩ : ∃ u : Nat, x.P.getD k 0 = (u : Int) := Int.eq_ofNat_of_zero_le h0
        have hun : u < x.n := by lia
        have ku : (kn1 x k).getD u 0 = r1 (x.v.getD u 0) x.p := by rw [kn1_get hun, if_pos (by lia)]
        refine WS_assign ?_; refine WE_IfExp ?_; refine WB_and ?_; refine WB_CmpR .int ?_; refine WE_ev (.name mem8) ?_; refine ge_ii ?_; refine WTr_bool ?_
        refine ite_t (decide_eq_true h0) ?_
        refine WB_and ?_; refine WB_CmpR (.name mem4) ?_
        refine WE_call (C := C) mem2 callable_builtin ?_
        refine WL_cons ?_; refine WE_SubR (.name mem8) ?_; refine WE_ev (.name mem2) ?_
        refine item_intE (show ObjAt _ _ (.ref κ) _ from hl.k) hu zk (by rw [lk]; exact hun) ?_
        rw [ku]
        refine WL_ev .nil ?_
        refine WC_abs ?_
        rw [show (if r1 (x.v.getD u 0) x.p < 0 then -r1 (x.v.getD u 0) x.p else r1 (x.v.getD u 0) x.p) = avi (r1 (x.v.getD u 0) x.p) from rfl]
        refine ge_ii ?_; refine WTr_bool ?_
        have hnr := (ok.cut u).near
        have hne : x.near k = b01 (2 ^ x.p ≤ avi (x.v.getD u 0)) := by unfold Plx.near; rw [hu, Int.toNat_natCast]; unfold b01; simp [av_avi]
        refine ite_b (fun hb => ?_) (fun hb => ?_)
        · have hb' := hnr.mp (of_decide_eq_true hb)
          refine WB_and_nil ?_; refine WE_ev .int ?_; refine exUp up9 ?_; refine hOf (by assumption) ?_
          exact ⟨rfl, rfl, by rw [hne]; unfold b01; rw [if_pos hb']⟩
        · have hb' := fun q => of_decide_eq_false hb (hnr.mpr q)
          refine WE_ev .int ?_; refine exUp up9 ?_; refine hOf (by assumption) ?_
          exact ⟨rfl, rfl, by rw [hne]; unfold b01; rw [if_neg hb']⟩
      · refine WS_assign ?_; refine WE_IfExp ?_; refine WB_and ?_; refine WB_CmpR .int ?_; refine WE_ev (.name mem8) ?_; refine ge_ii ?_; refine WTr_bool ?_
        refine ite_f (decide_eq_false h0) ?_
        refine WE_ev .int ?_; refine exUp up9 ?_; refine hOf (by assumption) ?_
        have hne : x.near k = 0 := by unfold Plx.near b01; rw [if_neg (fun q => h0 q.1)]
        rw [hne]
        exact ⟨rfl, rfl, rfl⟩
    rintro fl ρ' σ' ⟨rfl, rfl, rfl⟩
    refine Thn_next ?_; refine WSs_if ?_; refine WB_CmpR .int ?_
    refine WE_meth ?_
    refine WE_ev (.name mem0) ?_
    refine hl.wm c ⟨callable_K c.K (by kernel_rfl), ?_⟩
    refine WL_cons ?_; refine WE_Tuple ?_; refine WL_consE .str ?_; refine WL_cons ?_; refine WE_SubR (.name mem7) ?_; refine WE_attrN mem1 ?_
    refine at_depths c (gl_up h1) (gl_up h2) ?_
    refine item_intN (show ObjAt _ _ (.ref jd) _ from gl_up h5) zD kD ?_
    refine WL_consE (.name mem9) ?_; refine WL_ev .nil ?_; refine szAnd ?_; refine WL_ev .nil ?_
    rw [List.append_assoc]
    have hk1 : KeyV (σb ++ (J ++ [O.tuple [V.str (Str.ofString "great"), V.int (x.D.getD k 0), V.int (x.near k)]])) (kGreat (x.D.getD k 0) (x.near k)) (σb ++ J).length (.ref (σb ++ J).length) := ⟨rfl, by rw [← List.append_assoc]; exact ObjAt.new (C := C) rfl⟩
    by_cases hgr : 2 ^ x.p ≤ av x.v k
    · have e1 : x.ev1 (x.cov k) k = (false, [(kGreat (x.D.getD k 0) (x.near k), 1), (kSign, b01 (x.v.getD k 0 < 0))]) := by unfold Plx.ev1; rw [if_neg hc, if_neg hg', if_pos hgr]
      rw [e1, cs] at cvn
      rw [e1] at evn hpost
      have er : r1 (x.v.getD k 0) x.p = if x.v.getD k 0 < 0 then -2 ^ x.p else 2 ^ x.p := by rw [r1, ← av_avi x.v k, if_neg hg', if_pos hgr]
      refine rl_get c rm.le hl.up hall (by rw [hpost, List.append_assoc]; rfl) hk1 (.inr rfl) ?_
      intro J2 rs2 hl2
      refine eq_ii ?_; refine WTr_bool ?_; refine WSs_cons ?_; refine WS_setitem ?_; refine WE_IfExp ?_; refine WB_CmpR .int ?_
      refine WE_meth ?_
      refine WE_ev (.name mem0) ?_
      refine hl2.wm c ⟨callable_K c.K (by kernel_rfl), ?_⟩
      refine WL_consE .str ?_; refine WL_ev .nil ?_
      refine rl_get (k := kSign) (t := 0) (post := post) (bit := b01 (x.v.getD k 0 < 0)) c rm.le hl2 hall (by rw [hpost]; simp only [List.append_assoc, List.cons_append, List.nil_append]) rfl (b01_bit _) ?_
      intro J3 rs3 hl3
      rw [List.append_assoc] at hl3
      have fin : ∀ w : Int, w = r1 (x.v.getD k 0) x.p → ∃ J', (σb ++ J3).set κ (.list ((kn1 x k).map V.int |>.set k (.int w))) = σb ++ J' ∧ RLp σs σb J' κ b ci bi x.all (x.evs1 (k + 1)) (kn1 x (k + 1)) (kn1 x 0) (x.cov (k + 1)) rs3 := fun w hw => by
        obtain ⟨J4, eJ, hl4⟩ := hl3.setK (kn1 x (k + 1))
        refine ⟨J4, ?_, by rw [cvn, evn]; exact hl4⟩
        rw [← eJ, ← kn1_set, hw, List.map_set]
      refine eq_ii ?_; refine WTr_bool ?_
      refine ite_b (fun hb => ?_) (fun hb => ?_)
      · have hb' : x.v.getD k 0 < 0 := (b01_one _).mp (by simpa using hb)
        rw [if_pos hb'] at er
        refine WE_ev (.neg (.name mem4)) ?_; refine WE_ev (.name mem2) ?_; refine WE_ev (.name mem7) ?_
        refine seti_list hl3.k (by lia) (by lia) (by rw [List.length_map, lk]; lia) ?_
        rw [Int.toNat_natCast]
        obtain ⟨J4, eJ, hl4⟩ := fin _ er.symm
        rw [eJ]
        refine Thn_next ?_; refine WSs_nil ?_; refine Thn_next ?_; refine WSs_nil ?_; refine hOf (by assumption) ?_; refine LoopPost_next ?_
        exact ⟨J4, rs3, _, _, _, rfl, hl4, rfl⟩
      · have hb' : ¬ x.v.getD k 0 < 0 := fun q => by rw [(b01_one _).mpr q] at hb; simp at hb
        rw [if_neg hb'] at er
        refine WE_ev (.name mem4) ?_; refine WE_ev (.name mem2) ?_; refine WE_ev (.name mem7) ?_
        refine seti_list hl3.k (by lia) (by lia) (by rw [List.length_map, lk]; lia) ?_
        rw [Int.toNat_natCast]
        obtain ⟨J4, eJ, hl4⟩ := fin _ er.symm
        rw [eJ]
        refine Thn_next ?_; refine WSs_nil ?_; refine Thn_next ?_; refine WSs_nil ?_; refine hOf (by assumption) ?_; refine LoopPost_next ?_
        exact ⟨J4, rs3, _, _, _, rfl, hl4, rfl⟩
    have ks : kn1 x (k + 1) = kn1 x k := kn1_same hk (by rw [r1, ← av_avi x.v k, if_neg hg', if_neg hgr, hz0])
    obtain ⟨xs, o6, r6⟩ := h6.list_inv
    obtain ⟨kf, rfl, hkf⟩ := r6.range_inv
    have hkd := (hkf k hk).rowI_inv
    have hkl : (kids x.P k).length ≤ 100000 := by unfold kids; have := List.length_filter_le (fun c => x.P.getD c 0 == (k : Int)) (List.range x.P.length); rw [List.length_range] at this; lia
    by_cases hkn' : x.kn k = true
    · have e1 : x.ev1 (x.cov k) k = (decide (x.U.getD k 0 < 2 ^ x.p), [(kGreat (x.D.getD k 0) (x.near k), 0), (kEmpty (x.D.getD k 0), b01 (x.U.getD k 0 < 2 ^ x.p))]) := by unfold Plx.ev1; rw [if_neg hc, if_neg hg', if_neg hgr, if_pos hkn']
      rw [e1] at cvn evn hpost
      rw [xk] at hkn'
      refine rl_get c rm.le hl.up hall (by rw [hpost, List.append_assoc]; rfl) hk1 (.inl rfl) ?_
      intro J2 rs2 hl2
      refine eq_ii ?_; refine WTr_bool ?_; refine WSs_if ?_; refine WB_CmpR .int ?_
      refine WE_call (C := C) mem0 callable_builtin ?_
      refine WL_cons ?_; refine WE_SubR (.name mem7) ?_; refine WE_attrN mem1 ?_
      refine at_children c (gl_up h1) (gl_up h2) ?_
      refine item_listN (x := kf k) (show ObjAt _ _ (.ref jc) _ from gl_up o6) (by simp; lia) (by simp [hk]) ?_
      refine WL_ev .nil ?_
      refine WC_lenI hkd.up (n := (kids x.P k).length) (by simp) hkl ?_
      refine gt_ii ?_; refine WTr_bool ?_
      refine ite_t (decide_eq_true (by have := of_decide_eq_true hkn'; lia)) ?_
      refine WSs_cons ?_; refine WS_setitem ?_; refine WE_CmpR .int ?_
      refine WE_meth ?_
      refine WE_ev (.name mem0) ?_
      refine hl2.wm c ⟨callable_K c.K (by kernel_rfl), ?_⟩
      refine WL_cons ?_; refine WE_Tuple ?_; refine WL_consE .str ?_; refine WL_cons ?_; refine WE_SubR (.name mem7) ?_; refine WE_attrN mem1 ?_
      refine at_depths c (gl_up h1) (gl_up h2) ?_
      refine item_intN (show ObjAt _ _ (.ref jd) _ from gl_up h5) zD kD ?_
      refine WL_ev .nil ?_; refine szAnd ?_; refine WL_ev .nil ?_
      rw [List.append_assoc]
      have hk2 : KeyV (σb ++ (J2 ++ [O.tuple [V.str (Str.ofString "empty"), V.int (x.D.getD k 0)]])) (kEmpty (x.D.getD k 0)) (σb ++ J2).length (.ref (σb ++ J2).length) := ⟨rfl, by rw [← List.append_assoc]; exact ObjAt.new (C := C) rfl⟩
      refine rl_get (post := post) (bit := b01 (x.U.getD k 0 < 2 ^ x.p)) c rm.le hl2.up hall (by rw [hpost]; simp only [List.append_assoc, List.cons_append, List.nil_append]) hk2 (b01_bit _) ?_
      intro J3 rs3 hl3
      rw [List.append_assoc] at hl3
      refine eq_ii ?_; refine WE_ev (.name mem5) ?_; refine WE_ev (.name mem7) ?_
      have ebb : (b01 (x.U.getD k 0 < 2 ^ x.p) == 1) = decide (x.U.getD k 0 < 2 ^ x.p) := by unfold b01; split <;> simp_all
      rw [ebb]
      refine seti_list hl3.c (by lia) (by lia) (by rw [List.length_map, lC]; lia) ?_
      rw [Int.toNat_natCast, ← List.map_set]
      obtain ⟨J4, eJ, hl4⟩ := hl3.setC ((x.cov k).set k (decide (x.U.getD k 0 < 2 ^ x.p)))
      rw [eJ]
      refine Thn_next ?_; refine WSs_nil ?_; refine Thn_next ?_; refine WSs_nil ?_; refine Thn_next ?_; refine WSs_nil ?_; refine hOf (by assumption) ?_; refine LoopPost_next ?_
      exact ⟨J4, rs3, _, _, _, rfl, by rw [cvn, evn, ks]; exact hl4, rfl⟩
    · have e1 : x.ev1 (x.cov k) k = (false, [(kGreat (x.D.getD k 0) (x.near k), 0)]) := by unfold Plx.ev1; rw [if_neg hc, if_neg hg', if_neg hgr, if_neg hkn']
      rw [e1, cs] at cvn
      rw [e1] at evn hpost
      rw [xk] at hkn'
      refine rl_get (post := post) c rm.le hl.up hall (by rw [hpost, List.append_assoc]; rfl) hk1 (.inl rfl) ?_
      intro J2 rs2 hl2
      refine eq_ii ?_; refine WTr_bool ?_; refine WSs_if ?_; refine WB_CmpR .int ?_
      refine WE_call (C := C) mem0 callable_builtin ?_
      refine WL_cons ?_; refine WE_SubR (.name mem7) ?_; refine WE_attrN mem1 ?_
      refine at_children c (gl_up h1) (gl_up h2) ?_
      refine item_listN (x := kf k) (show ObjAt _ _ (.ref jc) _ from gl_up o6) (by simp; lia) (by simp [hk]) ?_
      refine WL_ev .nil ?_
      refine WC_lenI hkd.up (n := (kids x.P k).length) (by simp) hkl ?_
      refine gt_ii ?_; refine WTr_bool ?_
      refine ite_f (decide_eq_false (fun q => hkn' (decide_eq_true (by lia)))) ?_
      refine WSs_nil ?_; refine Thn_next ?_; refine WSs_nil ?_; refine Thn_next ?_; refine WSs_nil ?_; refine hOf (by assumption) ?_; refine LoopPost_next ?_
      exact ⟨J2, rs2, _, _, _, rfl, by rw [cvn, evn, ks]; exact hl2, rfl⟩
  rintro ρ' σ' ⟨J, rs, a1, a2, a3, rfl, hl, rfl⟩
  refine ⟨trivial, ?_⟩
  rw [kn12] at hl
  refine Thn_next ?_; refine WSs_cons ?_
  refine WS_for (WItr_rng rm.han mem1 ?_)
  refine WL_cons ?_
  refine WE_call (C := C) mem0 callable_builtin ?_
  refine WL_consE (.name mem2) ?_; refine WL_ev .nil ?_
  refine WC_lenI (show ObjAt _ _ (.ref κ) _ from hl.k) (lk2 0) zn ?_
  refine WL_ev .nil ?_
  refine exRng zn ?_
  refine ⟨fun k ρ' σ' => Ex5 fun J rs a1 a2 a3 => And3 (σ' = σb ++ J) (RLp σs σb J κ b ci bi x.all (x.evs1 x.n ++ x.evs2 k) (kn2 x k) (kn1 x 0) (x.cov x.n) rs) (ρ' = ([(Str.ofString "reader", (some (.ref (b + 1)))), (Str.ofString "trees", (some (.ref t))), (Str.ofString "known", (some (.ref κ))), (Str.ofString "plane", (some (.int x.p))), (Str.ofString "bound", (some (.int (2 ^ x.p)))), (Str.ofString "covered", (some (.ref ci))), (Str.ofString "before", (some (.ref bi))), (Str.ofString "k", a1), (Str.ofString "up", a2), (Str.ofString "near", a3)] : Loc)), ⟨J, rs, _, _, _, rfl, by rw [Plx.evs2, List.append_nil]; exact hl, rfl⟩, ?_, ?_⟩
  · rintro k ρ' σ' hk ⟨J, rs, a1, a2, a3, rfl, hl, rfl⟩
    refine ⟨trivial, ?_⟩
    have evn : x.evs1 x.n ++ x.evs2 (k + 1) = x.evs1 x.n ++ x.evs2 k ++ x.ev2 k := by rw [Plx.evs2, List.append_assoc]
    have ck := ok.cut k
    obtain ⟨post, hpost⟩ := x.all2 hk
    have kz : (kn1 x 0).getD k 0 = cutv (x.v.getD k 0) (x.p + 1) := by rw [kn1_get hk, if_neg (by lia)]
    have zk : (kn2 x k).length ≤ 100000 := by rw [lk2]; exact zn
    have kk : k < (kn2 x k).length := by rw [lk2]; exact hk
    have k2 : (kn2 x k).getD k 0 = r1 (x.v.getD k 0) x.p := by rw [kn2_get hk, if_neg (by lia)]
    refine WAs_opq fun _ _ _ => ?_; refine WAs_name up7 ?_; refine WSs_if ?_; refine WB_and ?_; refine WB_CmpR .int ?_; refine WE_SubR (.name mem7) ?_; refine WE_ev (.name mem6) ?_
    refine item_intN (show ObjAt _ _ (.ref bi) _ from hl.e) (by rw [lk]; exact zn) (by rw [lk]; exact hk) ?_
    rw [kz]
    refine ne_ii ?_; refine WTr_bool ?_
    refine ite_b (fun hg => ?_) fun hg => ?_
    · have hne : cutv (x.v.getD k 0) (x.p + 1) ≠ 0 := by simpa using hg
      have hg' : 2 ^ (x.p + 1) ≤ av x.v k := Classical.byContradiction fun q => hne (ck.z.mpr q)
      have e2 : x.ev2 k = [(kMore, (av x.v k).fdiv (2 ^ x.p) % 2)] := by unfold Plx.ev2; rw [if_pos hg']
      have er : r1 (x.v.getD k 0) x.p = cutv (x.v.getD k 0) (x.p + 1) := by rw [r1, ← av_avi x.v k, if_pos hg']
      have em := ck.more hg'
      rw [← av_avi x.v k] at em
      rw [e2] at evn hpost
      refine WB_and ?_; refine WB_CmpR .int ?_
      refine WE_meth ?_
      refine WE_ev (.name mem0) ?_
      refine hl.wm c ⟨callable_K c.K (by kernel_rfl), ?_⟩
      refine WL_consE .str ?_; refine WL_ev .nil ?_
      refine rl_get (k := kMore) (t := 0) (post := post) (bit := (av x.v k).fdiv (2 ^ x.p) % 2) c rm.le hl hall (by rw [hpost]; simp only [List.append_assoc, List.cons_append, List.nil_append]) rfl ck.bit ?_
      intro J3 rs3 hl3
      rw [← evn] at hl3
      have fin : ∀ w : Int, w = cutv (x.v.getD k 0) x.p → ∃ J', (σb ++ J3).set κ (.list ((kn2 x k).map V.int |>.set k (.int w))) = σb ++ J' ∧ RLp σs σb J' κ b ci bi x.all (x.evs1 x.n ++ x.evs2 (k + 1)) (kn2 x (k + 1)) (kn1 x 0) (x.cov x.n) rs3 := fun w hw => by
        obtain ⟨J4, eJ, hl4⟩ := hl3.setK (kn2 x (k + 1))
        refine ⟨J4, ?_, hl4⟩
        rw [← eJ, ← kn2_set, hw, List.map_set]
      refine eq_ii ?_; refine WTr_bool ?_
      refine ite_b (fun hb => ?_) (fun hb => ?_)
      · have hb' : (av x.v k).fdiv (2 ^ x.p) % 2 = 1 := by simpa using hb
        rw [if_pos hb'] at em
        refine WB_and_nil ?_; refine WSs_cons ?_; refine WS_setitem ?_; refine WE_BinOp ?_; refine WE_SubR (.name mem7) ?_; refine WE_ev (.name mem2) ?_
        refine item_intN (show ObjAt _ _ (.ref κ) _ from hl3.k) zk kk ?_
        rw [k2, er]
        refine WE_IfExp ?_; refine WB_CmpR .int ?_; refine WE_SubR (.name mem7) ?_; refine WE_ev (.name mem2) ?_
        refine item_intN (show ObjAt _ _ (.ref κ) _ from hl3.k) zk kk ?_
        rw [k2, er]
        refine gt_ii ?_; refine WTr_bool ?_
        refine ite_WE (x := .int (if 0 < cutv (x.v.getD k 0) (x.p + 1) then 2 ^ x.p else -2 ^ x.p)) (fun hd => ?_) (fun hd => ?_) ?_
        · have hd' := of_decide_eq_true hd
          refine WE_ev (.name mem4) ?_
          exact ⟨by rw [if_pos hd'], rfl⟩
        · have hd' := of_decide_eq_false hd
          refine WE_ev (.neg (.name mem4)) ?_
          exact ⟨by rw [if_neg hd'], rfl⟩
        refine add_ii ?_; refine WE_ev (.name mem2) ?_; refine WE_ev (.name mem7) ?_
        rw [em]
        refine seti_list hl3.k (by lia) (by lia) (by rw [List.length_map, lk2]; lia) ?_
        rw [Int.toNat_natCast]
        obtain ⟨J4, eJ, hl4⟩ := fin _ rfl
        rw [eJ]
        refine Thn_next ?_; refine WSs_nil ?_; refine Thn_next ?_; refine WSs_nil ?_; refine hOf (by assumption) ?_; refine LoopPost_next ?_
        exact ⟨J4, rs3, _, _, _, rfl, hl4, rfl⟩
      · have hb' : ¬ (av x.v k).fdiv (2 ^ x.p) % 2 = 1 := by simpa using hb
        rw [if_neg hb', Int.add_zero, ← er] at em
        have ks : kn2 x (k + 1) = kn2 x k := kn2_same hk em
        refine WSs_nil ?_; refine Thn_next ?_; refine WSs_nil ?_; refine hOf (by assumption) ?_; refine LoopPost_next ?_
        exact ⟨J3, rs3, _, _, _, rfl, by rw [ks]; exact hl3, rfl⟩
    · have hz0 : cutv (x.v.getD k 0) (x.p + 1) = 0 := by simpa using hg
      have hg' : ¬ 2 ^ (x.p + 1) ≤ av x.v k := ck.z.mp hz0
      have e2 : x.ev2 k = [] := by unfold Plx.ev2; rw [if_neg hg']
      rw [e2, List.append_nil] at evn
      have ks : kn2 x (k + 1) = kn2 x k := kn2_same hk (ck.lo hg')
      refine WSs_nil ?_; refine Thn_next ?_; refine WSs_nil ?_; refine hOf (by assumption) ?_; refine LoopPost_next ?_
      exact ⟨J, rs, _, _, _, rfl, by rw [evn, ks]; exact hl, rfl⟩
  · rintro ρ' σ' ⟨J, rs, a1, a2, a3, rfl, hl, rfl⟩
    refine ⟨trivial, ?_⟩
    refine Thn_next ?_; refine WSs_nil ?_; refine hOf (by assumption) ?_
    have hk9 := hl.k
    rw [kn2_end lv] at hk9
    exact hq J hk9 hl.s
end Mine

-- part E15m
set_option linter.unusedVariables false
namespace Mine
open PySem PySem.W PyProof.Rows
theorem int_at {v : List Int} {i : Nat} {pv : V} (hi : i < (v.map V.int).length) (hp : (fun i => (v.map V.int).getD i .none) i = pv) : V.int (v.getD i 0) = pv := (getD_v v (by simpa using hi)).symm.trans hp
theorem planes_spec {C : Cx} {A : Around} {σ : AH} {E : EX} {Q : V → AH → Prop} {vv : V} {v : List Int} (c : Law C) (rm : Room A 1) (ov : ObjAt C σ vv (.list (v.map .int))) (hz : v.length ≤ 1000)
    (hq : ∀ (m : Nat) J, Deep v m → Q (.int m) (σ ++ J)) : WC C A (.ref 114) [vv] σ Q E := by
  refine WC_def (pn := [Str.ofString "values"]) (ln := []) (gl := [(Str.ofString "max", Value.builtin "max")]) (dv := []) (ds := []) (c.K _ _ rfl) rfl (codeRec_of c.K (by kernel_rfl)) (by first | exact Room.dep0 (by assumption) | assumption | lia | exact Nat.le_of_ble_eq_true rfl) .nil rfl (fun x v h => c.glo x v ((show ∀ p ∈ ([(Str.ofString "max", Value.builtin "max")] : List (Str × Value)), p ∈ lawGlo by decide +kernel) (x, v) h)) ?_ (by decide +kernel) (by decide +kernel) (by decide +kernel) (by decide +kernel) ?_
  · intro s xs hkp hl
    obtain ⟨x0, rfl⟩ := len1 hl
    first | exact BindsTo.of_eq rfl | exact BindsTo.of_defaults rfl (hkp _ _ (c.K _ _ rfl)) rfl rfl rfl
  intro env henv
  replace c := c.wg [(Str.ofString "max", Value.builtin "max")]
  show WSs (C.wg [(Str.ofString "max", Value.builtin "max")]) _ _ _ [(Str.ofString "values", some (vv))] _ _ _
  refine WSs_opqF fun _ _ _ => ?_
  have rm := rm.deep (env := env)
  refine WSs_ret ?_
  refine WE_call (C := C) mem0 callable_builtin ?_
  refine WL_cons ?_; refine WE_BinOp ?_; refine WE_List ?_; refine WL_consE .int ?_; refine WL_ev .nil ?_; refine szAnd ?_
  refine WE_ListComp2 (l2 := [(Str.ofString "abs", Value.builtin "abs")]) (capt := []) henv (by show compOk _ _ _ [] [Str.ofString "abs"] = true; decide +kernel) (by simp) (by simp) (by intro p hp; simp only [List.mem_singleton] at hp; subst hp; exact .inr (c.glo _ _ (by decide +kernel))) ?_
  refine WItr_of ?_
  refine WE_ev (.name mem0) ?_
  refine ⟨_, _, _, Itb_list rm.han (show ObjAt C _ vv _ from ov.up), ?_⟩
  refine CompGo_ints (fun i => (bitsOf (v.getD i 0) : Int)) (by have e3 : sizeLine = 16777216 := rfl; rw [List.length_map]; lia) ov.up ?_ ?_
  · rintro i pv hi hp cenv hc
    have hp := int_at hi hp
    subst hp
    refine WE_methc ?_
    refine WE_call (C := C) mem0 callable_builtin ?_
    refine WL_consE (.name mem0) ?_; refine WL_ev .nil ?_
    refine WC_abs ?_
    refine WM_bits ⟨callable_builtin, ?_⟩
    refine WL_ev .nil ?_
    refine WC_bits ?_
    exact ⟨rfl, rfl⟩
  rw [List.length_map]
  refine add_ll (ObjAt.up (C := C) (ObjAt.new rfl)) (ObjAt.new (C := C) rfl) (by simp; lia) ?_
  refine WL_ev .nil ?_
  refine WC_maxL (ns := 0 :: (List.range v.length).map fun i => (bitsOf (v.getD i 0) : Int)) rm.han (ObjAt.new (C := C) rfl) (by simp) ?_
  intro m hm hle
  obtain ⟨n, rfl⟩ : ∃ n : Nat, m = (n : Int) := by
    rcases List.mem_cons.mp hm with rfl | hm
    · exact ⟨0, rfl⟩
    · obtain ⟨i, _, rfl⟩ := List.mem_map.mp hm; exact ⟨_, rfl⟩
  refine hOf (by assumption) ?_
  rw [List.append_assoc, List.append_assoc]
  refine hq n _ ⟨?_, fun a ha => ?_⟩
  · rcases List.mem_cons.mp hm with h | hm
    · exact .inl (by lia)
    · obtain ⟨i, hi, e⟩ := List.mem_map.mp hm
      have hi' := List.mem_range.mp hi
      exact .inr ⟨v.getD i 0, by simp [List.getD, hi'], by lia⟩
  · obtain ⟨i, hi, rfl⟩ := List.mem_iff_getElem.mp ha
    have := hle (bitsOf (v.getD i 0) : Int) (List.mem_cons_of_mem _ (List.mem_map.mpr ⟨i, List.mem_range.mpr hi, rfl⟩))
    have e : v.getD i 0 = v[i] := by simp [List.getD, hi]
    rw [e] at this
    lia
theorem half_p (p : Nat) : ((1 : Int) * 2 ^ ((p : Nat) : Int).toNat).fdiv (2 ^ (1 : Int).toNat) = halfOf p := by rw [Int.one_mul, Int.toNat_natCast]; rfl
theorem middled_spec {C : Cx} {A : Around} {σ : AH} {E : EX} {Q : V → AH → Prop} {vv : V} {v : List Int} {p : Nat} (c : Law C) (rm : Room A 1) (ov : ObjAt C σ vv (.list (v.map .int))) (hz : v.length ≤ 1000) (hp : p ≤ 100)
    (hq : Q (.ref σ.length) (σ ++ [.list ((v.map (midv · p)).map .int)])) : WC C A (.ref 133) [vv, .int p] σ Q E := by
  refine WC_def (pn := [Str.ofString "known", Str.ofString "plane"]) (ln := [Str.ofString "half"]) (gl := []) (dv := []) (ds := []) (c.K _ _ rfl) rfl (codeRec_of c.K (by kernel_rfl)) (by first | exact Room.dep0 (by assumption) | assumption | lia | exact Nat.le_of_ble_eq_true rfl) .nil rfl (fun x v h => c.glo x v ((show ∀ p ∈ ([] : List (Str × Value)), p ∈ lawGlo by decide +kernel) (x, v) h)) ?_ (by decide +kernel) (by decide +kernel) (by decide +kernel) (by decide +kernel) ?_
  · intro s xs hkp hl
    obtain ⟨x0, x1, rfl⟩ := len2 hl
    first | exact BindsTo.of_eq rfl | exact BindsTo.of_defaults rfl (hkp _ _ (c.K _ _ rfl)) rfl rfl rfl
  intro env henv
  replace c := c.wg []
  show WSs (C.wg []) _ _ _ [(Str.ofString "known", some (vv)), (Str.ofString "plane", some (.int p)), (Str.ofString "half", none)] _ _ _
  refine WSs_opqF fun _ _ _ => ?_
  have rm := rm.deep (env := env)
  refine WSs_asgW ?_; refine WE_BinR .int ?_; refine WE_BinR (.name mem1) ?_; refine WE_ev .int ?_
  refine shl_ii (by lia) (by lia) (by decide) ?_
  refine shr_ii (by decide) ?_
  rw [half_p]
  refine exUp up2 ?_; refine WSs_ret ?_
  refine WE_ListComp2 (l2 := []) (capt := [(Str.ofString "half", some (.int (halfOf p)))]) henv (by show compOk _ _ _ [Str.ofString "half"] [] = true; decide +kernel) (by simp) (by intro p hp; rw [List.mem_singleton.mp hp]; exact mem2) (by simp) ?_
  refine WItr_of ?_
  refine WE_ev (.name mem0) ?_
  refine ⟨_, _, _, Itb_list rm.han (show ObjAt C _ vv _ from ov), ?_⟩
  refine CompGo_ints (fun i => midv (v.getD i 0) p) (by have e3 : sizeLine = 16777216 := rfl; rw [List.length_map]; lia) ov ?_ ?_
  · rintro i pv hi hp cenv hc
    have hp := int_at hi hp
    subst hp
    generalize v.getD i 0 = y
    refine WE_IfExp ?_; refine WB_CmpR .int ?_; refine WE_ev (.name mem0) ?_; refine gt_ii ?_; refine WTr_bool ?_
    refine ite_b (fun hb => ?_) (fun hb => ?_)
    · have hb' := of_decide_eq_true hb
      refine WE_BinR (.name mem1) ?_; refine WE_ev (.name mem0) ?_; refine add_ii ?_
      exact ⟨by rw [midv, if_pos hb'], rfl⟩
    · have hb' := of_decide_eq_false hb
      refine WE_IfExp ?_; refine WB_CmpR .int ?_; refine WE_ev (.name mem0) ?_; refine lt_ii ?_; refine WTr_bool ?_
      refine ite_b (fun hd => ?_) (fun hd => ?_)
      · have hd' := of_decide_eq_true hd
        refine WE_BinR (.name mem1) ?_; refine WE_ev (.name mem0) ?_; refine sub_ii ?_
        exact ⟨by rw [midv, if_neg hb', if_pos hd'], rfl⟩
      · have hd' := of_decide_eq_false hd
        refine WE_ev .int ?_
        exact ⟨by rw [midv, if_neg hb', if_neg hd'], rfl⟩
  rw [List.length_map, map_getD_range v (midv · p)]
  refine hOf (by assumption) ?_
  exact hq
theorem cut_spec {C : Cx} {A : Around} {σ : AH} {E : EX} {Q : V → AH → Prop} {v : Int} {p : Nat} (c : Law C) (rm : Room A 1) (hv : -50 ≤ v ∧ v ≤ 50) (hp : p ≤ 100) (hq : Q (.int (pcd v p)) σ) : WC C A (.ref 264) [.int v, .int p] σ Q E := by
  refine WC_def (pn := [Str.ofString "value", Str.ofString "plane"]) (ln := [Str.ofString "size", Str.ofString "known"]) (gl := [(Str.ofString "abs", Value.builtin "abs")]) (dv := []) (ds := []) (c.K _ _ rfl) rfl (codeRec_of c.K (by kernel_rfl)) (by first | exact Room.dep0 (by assumption) | assumption | lia | exact Nat.le_of_ble_eq_true rfl) .nil rfl (fun x v h => c.glo x v ((show ∀ p ∈ ([(Str.ofString "abs", Value.builtin "abs")] : List (Str × Value)), p ∈ lawGlo by decide +kernel) (x, v) h)) ?_ (by decide +kernel) (by decide +kernel) (by decide +kernel) (by decide +kernel) ?_
  · intro s xs hkp hl
    obtain ⟨x0, x1, rfl⟩ := len2 hl
    first | exact BindsTo.of_eq rfl | exact BindsTo.of_defaults rfl (hkp _ _ (c.K _ _ rfl)) rfl rfl rfl
  intro env henv
  replace c := c.wg [(Str.ofString "abs", Value.builtin "abs")]
  show WSs (C.wg [(Str.ofString "abs", Value.builtin "abs")]) _ _ _ [(Str.ofString "value", some (.int v)), (Str.ofString "plane", some (.int p)), (Str.ofString "size", none), (Str.ofString "known", none)] _ _ _
  refine WSs_opqF fun _ _ _ => ?_
  have rm := rm.deep (env := env)
  have a0 : 0 ≤ avi v ∧ avi v ≤ 50 := by unfold avi; split <;> lia
  have hp0 : (0 : Int) < 2 ^ p := Int.pow_pos (by decide)
  have s0 : 0 ≤ (avi v).fdiv (2 ^ p) ∧ (avi v).fdiv (2 ^ p) ≤ 50 := by
    rw [Int.fdiv_eq_ediv_of_nonneg _ (Int.le_of_lt hp0)]
    exact ⟨Int.ediv_nonneg a0.1 (Int.le_of_lt hp0), Int.le_trans (Int.ediv_le_self _ a0.1) a0.2⟩
  refine WSs_asgW ?_; refine WE_BinR (.name mem1) ?_
  refine WE_call (C := C) mem0 callable_builtin ?_
  refine WL_consE (.name mem0) ?_; refine WL_ev .nil ?_
  refine WC_abs ?_
  rw [show (if v < 0 then -v else v) = avi v from rfl]
  refine shr_ii (by lia) ?_
  rw [Int.toNat_natCast]
  have hq' : Q (.int (pcd v p)) σ := hq
  unfold pcd at hq'
  generalize (avi v).fdiv (2 ^ p) = s at *
  refine exUp up2 ?_; refine WSs_if ?_; refine WB_CmpR .int ?_; refine WE_ev (.name mem2) ?_; refine eq_ii ?_; refine WTr_bool ?_
  refine ite_b (fun hb => ?_) (fun hb => ?_)
  · have hb' : s = 0 := by simpa using hb
    rw [if_pos hb'] at hq'
    refine WSs_retE .int ?_; refine Thn_ret ?_; refine hOf (by assumption) ?_
    exact hq'
  · have hb' : ¬ s = 0 := by simpa using hb
    rw [if_neg hb'] at hq'
    refine WSs_nil ?_; refine Thn_next ?_; refine WSs_asgW ?_; refine WE_BinOp ?_; refine WE_BinR (.name mem1) ?_; refine WE_ev (.name mem2) ?_
    refine shl_ii (by lia) (by lia) (by lia) ?_
    rw [Int.toNat_natCast]
    refine WE_BinR .int ?_; refine WE_BinR (.name mem1) ?_; refine WE_ev .int ?_
    refine shl_ii (by lia) (by lia) (by decide) ?_
    refine shr_ii (by decide) ?_
    rw [half_p]
    refine add_ii ?_; refine exUp up3 ?_; refine WSs_ret ?_; refine WE_IfExp ?_; refine WB_CmpR .int ?_; refine WE_ev (.name mem0) ?_; refine lt_ii ?_; refine WTr_bool ?_
    refine ite_b (fun hd => ?_) (fun hd => ?_)
    · have hd' := of_decide_eq_true hd
      rw [if_pos hd'] at hq'
      refine WE_ev (.neg (.name mem3)) ?_; refine hOf (by assumption) ?_
      exact hq'
    · have hd' := of_decide_eq_false hd
      rw [if_neg hd'] at hq'
      refine WE_ev (.name mem3) ?_; refine hOf (by assumption) ?_
      exact hq'
theorem bits_spec {C : Cx} {A : Around} {σ : AH} {E : EX} {Q : V → AH → Prop} {vv : V} {v : List Int} {p : Nat} (c : Law C) (rm : Room A 1) (ov : ObjAt C σ vv (.list (v.map .int))) (hz : v.length ≤ 1000)
    (hq : Q (.ref (σ.length + 2)) (σ ++ [.list ((v.map fun a => ((avi a).fdiv (2 ^ p)).fmod 2).map .int), .list ((newOnes v p).map .bool), .tuple [.ref σ.length, .ref (σ.length + 1)]])) : WC C A (.ref 257) [vv, .int p] σ Q E := by
  refine WC_def (pn := [Str.ofString "values", Str.ofString "plane"]) (ln := [Str.ofString "bits", Str.ofString "signs"]) (gl := []) (dv := []) (ds := []) (c.K _ _ rfl) rfl (codeRec_of c.K (by kernel_rfl)) (by first | exact Room.dep0 (by assumption) | assumption | lia | exact Nat.le_of_ble_eq_true rfl) .nil rfl (fun x v h => c.glo x v ((show ∀ p ∈ ([] : List (Str × Value)), p ∈ lawGlo by decide +kernel) (x, v) h)) ?_ (by decide +kernel) (by decide +kernel) (by decide +kernel) (by decide +kernel) ?_
  · intro s xs hkp hl
    obtain ⟨x0, x1, rfl⟩ := len2 hl
    first | exact BindsTo.of_eq rfl | exact BindsTo.of_defaults rfl (hkp _ _ (c.K _ _ rfl)) rfl rfl rfl
  intro env henv
  replace c := c.wg []
  show WSs (C.wg []) _ _ _ [(Str.ofString "values", some (vv)), (Str.ofString "plane", some (.int p)), (Str.ofString "bits", none), (Str.ofString "signs", none)] _ _ _
  refine WSs_opqF fun _ _ _ => ?_
  have rm := rm.deep (env := env)
  have z3 : v.length ≤ sizeLine := by have e3 : sizeLine = 16777216 := rfl; lia
  refine WSs_cons ?_
  refine WS_assign_comp2 (l2 := [(Str.ofString "abs", Value.builtin "abs")]) (capt := [(Str.ofString "plane", some (.int p))]) henv (by show compOk _ _ _ [Str.ofString "plane"] [Str.ofString "abs"] = true; decide +kernel) (by simp) (by intro p hp; rw [List.mem_singleton.mp hp]; exact mem1) (by intro p hp; simp only [List.mem_singleton] at hp; subst hp; exact .inr (c.glo _ _ (by decide +kernel))) ?_
  refine WItr_of ?_
  refine WE_ev (.name mem0) ?_
  refine ⟨_, _, _, Itb_list rm.han (show ObjAt C _ vv _ from ov), ?_⟩
  refine CompGo_ints (fun i => ((avi (v.getD i 0)).fdiv (2 ^ p)).fmod 2) (by rw [List.length_map]; exact z3) ov ?_ ?_
  · rintro i pv hi hp cenv hc
    have hp := int_at hi hp
    subst hp
    generalize v.getD i 0 = y
    refine WE_BinR .int ?_; refine WE_BinR (.name mem1) ?_
    refine WE_call (C := C) mem0 callable_builtin ?_
    refine WL_consE (.name mem0) ?_; refine WL_ev .nil ?_
    refine WC_abs ?_
    rw [show (if y < 0 then -y else y) = avi y from rfl]
    refine shr_ii (by lia) ?_
    rw [Int.toNat_natCast]
    refine mod_ii (by decide) ?_
    exact ⟨rfl, rfl⟩
  rw [List.length_map, map_getD_range v fun a => ((avi a).fdiv (2 ^ p)).fmod 2]
  apply exUp
  focus exact up2
  repeat (first | refine Thn_next ?_ | refine WSs_cons ?_)
  refine WS_assign_comp2 (l2 := [(Str.ofString "abs", Value.builtin "abs")]) (capt := [(Str.ofString "plane", some (.int p))]) henv (by show compOk _ _ _ [Str.ofString "plane"] [Str.ofString "abs"] = true; decide +kernel) (by simp) (by intro p hp; rw [List.mem_singleton.mp hp]; exact mem1) (by intro p hp; simp only [List.mem_singleton] at hp; subst hp; exact .inr (c.glo _ _ (by decide +kernel))) ?_
  refine WItr_of ?_
  refine WE_ev (.name mem0) ?_
  refine ⟨_, _, _, Itb_list rm.han (show ObjAt C _ vv _ from ov.up), ?_⟩
  refine ⟨by rw [List.length_map]; exact z3, fun i acc σ' => σ' = σ ++ [O.list ((v.map fun a => ((avi a).fdiv (2 ^ p)).fmod 2).map V.int)] ∧ acc = (((List.range i).filter fun k => decide ((avi (v.getD k 0)).fdiv (2 ^ p) = 1)).map fun k => V.bool (decide (v.getD k 0 < 0))), ⟨rfl, rfl⟩, ?_, ?_⟩
  · rintro i acc σ' pv hi hp ⟨rfl, rfl⟩
    have hp := int_at hi hp
    subst hp
    refine ⟨ov.up, fun cenv hc => ?_⟩
    refine WIf_true ?_
    refine WB_CmpR .int ?_; refine WE_BinR (.name mem1) ?_
    refine WE_call (C := C) mem0 callable_builtin ?_
    refine WL_consE (.name mem0) ?_; refine WL_ev .nil ?_
    refine WC_abs ?_
    rw [show (if v.getD i 0 < 0 then -v.getD i 0 else v.getD i 0) = avi (v.getD i 0) from rfl]
    refine shr_ii (by lia) ?_
    rw [Int.toNat_natCast]
    refine eq_ii ?_; refine WTr_bool ?_; refine WIf_nil ?_
    refine ite_b (fun hb => ?_) (fun hb => ?_)
    · have hb' : (avi (v.getD i 0)).fdiv (2 ^ p) = 1 := by simpa using hb
      refine WE_CmpR .int ?_; refine WE_ev (.name mem0) ?_; refine lt_ii ?_
      exact ⟨rfl, by rw [List.range_succ, List.filter_append]; simp only [List.filter_cons, List.filter_nil, hb', decide_true, if_true, List.map_append, List.map_cons, List.map_nil]⟩
    · have hb' : ¬ (avi (v.getD i 0)).fdiv (2 ^ p) = 1 := by simpa using hb
      exact ⟨rfl, by rw [List.range_succ, List.filter_append]; simp only [List.filter_cons, List.filter_nil, hb', decide_false, Bool.false_eq_true, if_false, List.append_nil]⟩
  · rintro acc σ' ⟨rfl, rfl⟩
    refine ⟨ov.up, ?_⟩
    rw [List.length_map]
    have en : ((List.range v.length).filter fun k => decide ((avi (v.getD k 0)).fdiv (2 ^ p) = 1)).map (fun k => V.bool (decide (v.getD k 0 < 0))) = (newOnes v p).map .bool := by rw [newOnes, List.map_map]; rfl
    rw [en]
    apply exUp
    focus exact up3
    refine Thn_next ?_; refine WSs_ret ?_; refine WE_Tuple ?_; refine WL_consE (.name mem2) ?_; refine WL_consE (.name mem3) ?_; refine WL_ev .nil ?_; refine szAnd ?_; refine hOf (by assumption) ?_
    have eh : σ ++ [O.list ((v.map fun a => ((avi a).fdiv (2 ^ p)).fmod 2).map V.int)] ++ [O.list ((newOnes v p).map V.bool)] ++ [O.tuple [V.ref σ.length, V.ref (σ ++ [O.list ((v.map fun a => ((avi a).fdiv (2 ^ p)).fmod 2).map V.int)]).length]] = σ ++ [.list ((v.map fun a => ((avi a).fdiv (2 ^ p)).fmod 2).map .int), .list ((newOnes v p).map .bool), .tuple [.ref σ.length, .ref (σ.length + 1)]] := by simp
    rw [eh]
    simp only [List.length_append, List.length_cons, List.length_nil]
    exact hq
end Mine

-- part E15n
set_option linter.unusedVariables false
namespace Mine
open PySem PySem.W PyProof.Rows
theorem le_mx {a : Int} : ∀ {l : List Int}, a ∈ l → a ≤ mx l
  | b :: l, h => by
    show a ≤ max b (mx l)
    rcases List.mem_cons.mp h with rfl | h
    · lia
    · have := le_mx h; lia
theorem px_ok {W H L p : Nat} {v : List Int} (tok : TreeOk W H L) (hn : W * H ≤ 36) (hv : Small50 v) (hp : p ≤ 5) : (pxOf W H L v p).Ok := by
  have lP : (psM W H L (3 * L)).length = W * H := by rw [psM_len, tok.tot]
  have hP : ∀ c, c < (psM W H L (3 * L)).length → (psM W H L (3 * L)).getD c 0 < (c : Int) := fun c hc => tok.up c (by rw [← lP]; exact hc)
  refine ⟨tok.up, fun k hk h0 => ?_, fun k => small_get hv k, hp, hn⟩
  show av v k ≤ (guP (psM W H L (3 * L)) v (W * H) (W * H - 1)).getD ((psM W H L (3 * L)).getD k 0).toNat 0 ∧ (guP (psM W H L (3 * L)) v (W * H) (W * H - 1)).getD k 0 ≤ (guP (psM W H L (3 * L)) v (W * H) (W * H - 1)).getD ((psM W H L (3 * L)).getD k 0).toNat 0
  have h0' : 0 ≤ (psM W H L (3 * L)).getD k 0 := h0
  have hk' : k < W * H := hk
  have up := tok.up k hk'
  rw [← lP] at hk' ⊢
  generalize psM W H L (3 * L) = P at *
  have hu : (P.getD k 0).toNat < P.length := by lia
  rw [gu_grt P v hP hu, gu_grt P v hP hk', grt_mx P v hP hu (fuel_kids P v hP)]
  have hm : k ∈ kids P (P.getD k 0).toNat := mem_kids.mpr ⟨hk', by lia⟩
  have := le_mx (List.mem_map.mpr ⟨k, hm, rfl⟩ : max (av v k) (grt P v P.length k) ∈ (kids P (P.getD k 0).toNat).map fun c => max (av v c) (grt P v P.length c))
  lia
theorem eqv_nil (xs : List Int) : PyData.eqv (.list (xs.map .int)) (.list []) = xs.isEmpty := by cases xs <;> rfl
theorem eqv_bools : ∀ bs : List Bool, PyData.eqvAll (bs.map PyData.bool) (bs.map PyData.bool) = true
  | [] => rfl
  | b :: bs => by have := eqv_bools bs; cases b <;> simp [PyData.eqvAll, PyData.eqv, this]
theorem rd_bools {C : Cx} {σ : AH} {v : V} {bs : List Bool} (o : ObjAt C σ v (.list (bs.map .bool))) : Rd C σ v (.list (bs.map .bool)) := by
  refine .list o ?_
  clear o
  induction bs with
  | nil => exact .nil
  | cons b bs ih => exact .cons .bool ih
theorem shaped_bools (bs : List Bool) : SeqAt.shaped (.list (bs.map PyData.bool)) = true := by
  have h1 : PyData.canLayAll0 (bs.map PyData.bool) = true := by
    induction bs with
    | nil => rfl
    | cons b bs ih => simp [PyData.canLayAll0, PyData.canLay0, ih]
  have h2 : PyData.depthAll (bs.map PyData.bool) ≤ 1 := by
    clear h1
    induction bs with
    | nil => simp [PyData.depthAll]
    | cons b bs ih => simp [PyData.depthAll, PyData.depth]; lia
  simp only [SeqAt.shaped, PyData.canLay0, PyData.depth, h1, Bool.true_and]
  first | (simp; lia) | lia
theorem pick50 {n : Int} : ∃ y : Int, (-50 ≤ y ∧ y ≤ 50) ∧ [V.int 0, V.int (n.fmod 7 - 3), V.int (n.fmod 101 - 50), V.int 0][(n.fmod 4).toNat]? = some (.int y) := by
  have a1 := Int.fmod_nonneg_of_pos n (show (0 : Int) < 4 by decide)
  have a2 := Int.fmod_lt_of_pos n (show (0 : Int) < 4 by decide)
  have b1 := Int.fmod_nonneg_of_pos n (show (0 : Int) < 7 by decide)
  have b2 := Int.fmod_lt_of_pos n (show (0 : Int) < 7 by decide)
  have c1 := Int.fmod_nonneg_of_pos n (show (0 : Int) < 101 by decide)
  have c2 := Int.fmod_lt_of_pos n (show (0 : Int) < 101 by decide)
  generalize n.fmod 4 = q at *
  have : q = 0 ∨ q = 1 ∨ q = 2 ∨ q = 3 := by lia
  rcases this with rfl | rfl | rfl | rfl
  · exact ⟨0, by lia, rfl⟩
  · exact ⟨_, by lia, rfl⟩
  · exact ⟨_, by lia, rfl⟩
  · exact ⟨0, by lia, rfl⟩
theorem law_main {C : Cx} (c : Law C) {a : Addr} {ns : List Int} (hg : (a, O.list (ns.map .int)) ∈ C.gob) (hl : ns.length ≤ 63) (_ht : ∀ x ∈ topObjs, x ∈ C.gob) : WC C callerA (.ref 276) [.k (.ref a)] [] (fun v _ => v = .bool true) (fun _ _ => False) := by
  refine WC_def (pn := [Str.ofString "script"]) (ln := [Str.ofString "width", Str.ofString "height", Str.ofString "tree", Str.ofString "values", Str.ofString "k", Str.ofString "n", Str.ofString "depth", Str.ofString "known", Str.ofString "back", Str.ofString "plane", Str.ofString "writer", Str.ofString "before", Str.ofString "bits", Str.ofString "signs"]) (gl := [(Str.ofString "Trees", Value.ref 105), (Str.ofString "Writer", Value.ref 213), (Str.ofString "Reader", Value.ref 248), (Str.ofString "planes_of", Value.ref 114), (Str.ofString "write_plane", Value.ref 121), (Str.ofString "read_plane", Value.ref 128), (Str.ofString "middled", Value.ref 133), (Str.ofString "plain_bits", Value.ref 257), (Str.ofString "len", Value.builtin "len"), (Str.ofString "range", Value.type "range"), (Str.ofString "_law_cell", Value.ref 271)]) (dv := []) (ds := []) (c.K _ _ rfl) rfl (codeRec_of c.K (by kernel_rfl)) (by first | exact Room.dep0 (by assumption) | assumption | lia | exact Nat.le_of_ble_eq_true rfl) .nil rfl (fun x v h => c.glo x v ((show ∀ p ∈ ([(Str.ofString "Trees", Value.ref 105), (Str.ofString "Writer", Value.ref 213), (Str.ofString "Reader", Value.ref 248), (Str.ofString "planes_of", Value.ref 114), (Str.ofString "write_plane", Value.ref 121), (Str.ofString "read_plane", Value.ref 128), (Str.ofString "middled", Value.ref 133), (Str.ofString "plain_bits", Value.ref 257), (Str.ofString "len", Value.builtin "len"), (Str.ofString "range", Value.type "range"), (Str.ofString "_law_cell", Value.ref 271)] : List (Str × Value)), p ∈ lawGlo by decide +kernel) (x, v) h)) ?_ (by decide +kernel) (by decide +kernel) (by decide +kernel) (by decide +kernel) ?_
  · intro s xs hkp hl
    obtain ⟨x0, rfl⟩ := len1 hl
    first | exact BindsTo.of_eq rfl | exact BindsTo.of_defaults rfl (hkp _ _ (c.K _ _ rfl)) rfl rfl rfl
  intro env henv
  replace c := c.wg [(Str.ofString "Trees", Value.ref 105), (Str.ofString "Writer", Value.ref 213), (Str.ofString "Reader", Value.ref 248), (Str.ofString "planes_of", Value.ref 114), (Str.ofString "write_plane", Value.ref 121), (Str.ofString "read_plane", Value.ref 128), (Str.ofString "middled", Value.ref 133), (Str.ofString "plain_bits", Value.ref 257), (Str.ofString "len", Value.builtin "len"), (Str.ofString "range", Value.type "range"), (Str.ofString "_law_cell", Value.ref 271)]
  show WSs (C.wg [(Str.ofString "Trees", Value.ref 105), (Str.ofString "Writer", Value.ref 213), (Str.ofString "Reader", Value.ref 248), (Str.ofString "planes_of", Value.ref 114), (Str.ofString "write_plane", Value.ref 121), (Str.ofString "read_plane", Value.ref 128), (Str.ofString "middled", Value.ref 133), (Str.ofString "plain_bits", Value.ref 257), (Str.ofString "len", Value.builtin "len"), (Str.ofString "range", Value.type "range"), (Str.ofString "_law_cell", Value.ref 271)]) _ _ _ [(Str.ofString "script", some (.k (.ref a))), (Str.ofString "width", none), (Str.ofString "height", none), (Str.ofString "tree", none), (Str.ofString "values", none), (Str.ofString "k", none), (Str.ofString "n", none), (Str.ofString "depth", none), (Str.ofString "known", none), (Str.ofString "back", none), (Str.ofString "plane", none), (Str.ofString "writer", none), (Str.ofString "before", none), (Str.ofString "bits", none), (Str.ofString "signs", none)] _ _ _
  refine WSs_opqF fun _ _ _ => ?_
  have fm : ∀ (n m : Int), 0 < m → 0 ≤ n.fmod m ∧ n.fmod m < m := fun n m h => ⟨Int.fmod_nonneg_of_pos _ h, Int.fmod_lt_of_pos _ h⟩
  have rm : Room (callerA.deeper env) 10 := ⟨rfl, Nat.le_of_ble_eq_true rfl, Nat.le_of_ble_eq_true rfl⟩
  generalize callerA.deeper env = A at *
  refine WSs_asgW ?_; refine WE_BinL .int ?_; refine WE_BinR .int ?_
  refine WE_call (C := C) mem10 c.c271 ?_
  refine WL_consE (.name mem0) ?_; refine WL_consE .int ?_; refine WL_ev .nil ?_
  refine cell_spec c rm.dep0 hg hl (by decide) ?_
  refine mod_ii (by decide) ?_; refine add_ii ?_; refine exUp up1 ?_; refine WSs_asgW ?_; refine WE_BinL .int ?_; refine WE_BinR .int ?_
  obtain ⟨w0, w1⟩ := fm (ns.getD (Int.toNat 0) 0) 6 (by decide)
  generalize (ns.getD (Int.toNat 0) 0).fmod 6 = wi at *
  obtain ⟨W, hW⟩ : ∃ W : Nat, 1 + wi = (W : Int) := ⟨(1 + wi).toNat, by lia⟩
  rw [hW]
  refine WE_call (C := C) mem10 c.c271 ?_
  refine WL_consE (.name mem0) ?_; refine WL_consE .int ?_; refine WL_ev .nil ?_
  refine cell_spec c rm.dep0 hg hl (by decide) ?_
  refine mod_ii (by decide) ?_; refine add_ii ?_; refine exUp up2 ?_; refine WSs_asgW ?_
  obtain ⟨h0, h1⟩ := fm (ns.getD (Int.toNat 1) 0) 6 (by decide)
  generalize (ns.getD (Int.toNat 1) 0).fmod 6 = hi at *
  obtain ⟨H, hH⟩ : ∃ H : Nat, 1 + hi = (H : Int) := ⟨(1 + hi).toNat, by lia⟩
  rw [hH]
  refine WE_call (C := C) mem0 c.c105 ?_
  refine WL_consE (.name mem1) ?_; refine WL_consE (.name mem2) ?_; refine WL_cons ?_; refine WE_BinR .int ?_
  refine WE_call (C := C) mem10 c.c271 ?_
  refine WL_consE (.name mem0) ?_; refine WL_consE .int ?_; refine WL_ev .nil ?_
  refine cell_spec c rm.dep0 hg hl (by decide) ?_
  refine mod_ii (by decide) ?_; refine WL_ev .nil ?_
  obtain ⟨l0, l1⟩ := fm (ns.getD (Int.toNat 2) 0) 4 (by decide)
  generalize (ns.getD (Int.toNat 2) 0).fmod 4 = li at *
  obtain ⟨L, rfl⟩ : ∃ L : Nat, li = (L : Int) := ⟨li.toNat, by lia⟩
  have tok : TreeOk W H L := tree_ok (by lia) (by lia) (by lia) (by lia) (by lia)
  have hn : W * H ≤ 36 := Nat.mul_le_mul (show W ≤ 6 by lia) (show H ≤ 6 by lia)
  refine WC_new (fI := 67) c.K clsT (by kernel_rfl) (by kernel_rfl) fun us => ?_
  refine init_tree c rm.make.le (by lia) (by lia) (by lia) (by lia) (by lia) fun J1 T => ⟨rfl, ?_⟩
  have hW6 : W ≤ 6 := by lia
  clear w0 w1 h0 h1 l0 l1 hW hH
  generalize List.length ([] : AH) + 1 = t at *
  generalize [] ++ J1 = σ1 at *
  refine exUp up3 ?_; refine WSs_asgW ?_; refine WE_List ?_; refine WL_ev .nil ?_; refine szAnd ?_; refine exUp up4 ?_; refine WSs_cons ?_
  generalize hjv : List.length σ1 = jv
  refine WS_for (WItr_rng rm.han mem9 ?_)
  refine WL_cons ?_; refine WE_BinR (.name mem2) ?_; refine WE_ev (.name mem1) ?_
  refine mul_nn (by lia) ?_
  refine WL_ev .nil ?_
  refine exRng (Nat.le_trans hn (Nat.le_of_ble_eq_true rfl)) ?_
  refine ⟨fun i ρ' σ' => Ex3 fun v t1 t2 => And4 (σ' = σ1 ++ [O.list (v.map .int)]) (v.length = i) (Small50 v) (ρ' = ([(Str.ofString "script", (some (.k (.ref a)))), (Str.ofString "width", (some (.int W))), (Str.ofString "height", (some (.int H))), (Str.ofString "tree", (some (.ref t))), (Str.ofString "values", (some (.ref jv))), (Str.ofString "k", t1), (Str.ofString "n", t2), (Str.ofString "depth", none), (Str.ofString "known", none), (Str.ofString "back", none), (Str.ofString "plane", none), (Str.ofString "writer", none), (Str.ofString "before", none), (Str.ofString "bits", none), (Str.ofString "signs", none)] : Loc)), ⟨[], _, _, rfl, rfl, fun a h => (nomatch h), rfl⟩, ?_, ?_⟩
  · rintro i ρ' σ' hi ⟨v, t1, t2, rfl, lv, hv, rfl⟩
    refine ⟨trivial, ?_⟩
    have hm : ((4 : Int) + ((i : Nat) : Int).fmod 30) = (((4 + i % 30 : Nat)) : Int) := by rw [Int.fmod_eq_emod_of_nonneg _ (by decide)]; lia
    refine WAs_opq fun _ _ _ => ?_; refine WAs_name up5 ?_; refine WSs_asgW ?_; refine WE_BinOp ?_; refine WE_BinR .int ?_
    refine WE_call (C := C) mem10 c.c271 ?_
    refine WL_consE (.name mem0) ?_; refine WL_cons ?_; refine WE_BinL .int ?_; refine WE_BinR .int ?_; refine WE_ev (.name mem5) ?_; refine mod_ii (by decide) ?_; refine add_ii ?_; refine WL_ev .nil ?_
    refine cell_spec c rm.dep0 hg hl (by rw [hm]; lia) ?_
    refine mod_ii (by decide) ?_; refine WE_BinOp ?_; refine WE_BinR .int ?_; refine WE_ev (.name mem5) ?_; refine add_ii ?_; refine WE_BinR .int ?_
    obtain ⟨c0, c1⟩ := fm (ns.getD ((4 : Int) + ((i : Nat) : Int).fmod 30).toNat 0) 997 (by decide)
    generalize (ns.getD ((4 : Int) + ((i : Nat) : Int).fmod 30).toNat 0).fmod 997 = q at *
    refine WE_call (C := C) mem10 c.c271 ?_
    refine WL_consE (.name mem0) ?_; refine WL_consE .int ?_; refine WL_ev .nil ?_
    refine cell_spec c rm.dep0 hg hl (by decide) ?_
    refine mod_ii (by decide) ?_; refine add_ii ?_
    refine mul_ii (mul_small (by lia) (by lia)) ?_
    generalize q * ((i : Int) + 1 + (ns.getD (Int.toNat 3) 0).fmod 7) = n
    obtain ⟨y, hy, hx⟩ := pick50 (n := n)
    obtain ⟨n0, n1⟩ := fm n 4 (by decide)
    refine exUp up6 ?_; refine WSs_expr ?_
    refine WE_meth ?_
    refine WE_ev (.name mem4) ?_
    have ojv : (σ1 ++ [O.list (v.map V.int)])[jv]? = some (.list (v.map .int)) := by rw [← hjv]; simp
    refine WM_append ojv ⟨callable_builtin, ?_⟩
    refine WL_cons ?_; refine WE_menuX ?_; refine WL_consE .int ?_; refine WL_cons ?_; refine WE_BinR .int ?_; refine WE_BinR .int ?_; refine WE_ev (.name mem6) ?_; refine mod_ii (by decide) ?_; refine sub_ii ?_; refine WL_cons ?_; refine WE_BinR .int ?_; refine WE_BinR .int ?_; refine WE_ev (.name mem6) ?_; refine mod_ii (by decide) ?_; refine sub_ii ?_; refine WL_consE .int ?_; refine WL_ev .nil ?_; refine szAnd ?_; refine WE_BinR .int ?_; refine WE_ev (.name mem6) ?_; refine mod_ii (by decide) ?_
    refine ixI n0 (by lia) hx ?_
    refine WL_ev .nil ?_
    refine WC_appE (n := 1000) ojv (by rw [List.length_map]; lia) (by decide) ?_
    have es : (σ1 ++ [O.list (v.map V.int)]).set jv (O.list (v.map V.int ++ [V.int y])) = σ1 ++ [O.list ((v ++ [y]).map V.int)] := by rw [← hjv]; simp
    rw [es]
    refine WSs_nil ?_; refine hOf (by assumption) ?_; refine LoopPost_next ?_
    refine ⟨v ++ [y], _, _, rfl, by simp [lv], fun a ha => ?_, rfl⟩
    rcases List.mem_append.mp ha with h | h
    · exact hv a h
    · rw [List.mem_singleton.mp h]; exact hy
  rintro ρ' σ' ⟨v, t1, t2, rfl, lv, hv, rfl⟩
  refine ⟨trivial, ?_⟩
  have lv1 : v.length ≤ 1000 := by lia
  have zv : v.length ≤ 100000 := by lia
  have ojv : ObjAt C (σ1 ++ [O.list (v.map V.int)]) (.ref jv) (.list (v.map .int)) := by show (σ1 ++ [O.list (v.map V.int)])[jv]? = _; rw [← hjv]; simp
  replace T := T.up (J := [O.list (v.map V.int)])
  generalize σ1 ++ [O.list (v.map V.int)] = σ1 at *
  clear hjv
  refine Thn_next ?_; refine WSs_asgW ?_
  refine WE_call (C := C) mem3 c.c114 ?_
  refine WL_consE (.name mem4) ?_; refine WL_ev .nil ?_
  refine planes_spec c rm.le ojv lv1 ?_
  intro m J2 dp
  have h6 := dp.six hv
  replace T := T.up (J := J2)
  replace ojv := ojv.up (J := J2)
  generalize σ1 ++ J2 = σ1 at *
  refine exUp up7 ?_; refine WSs_if ?_; refine WB_Compare1 ?_; refine WE_ev (.name mem7) ?_
  refine WE_call (C := C) mem8 callable_builtin ?_
  refine WL_cons ?_
  refine WE_ListCompC (C := C) (l2 := []) (capt := [(Str.ofString "values", some (.ref jv))]) henv (by show compOkC _ _ _ [Str.ofString "values"] [] = true; decide +kernel) (by simp) (by intro p hp; rw [List.mem_singleton.mp hp]; exact mem4) (by simp) ?_
  refine WItr_rng rm.han mem9 ?_
  refine WL_consE .int ?_; refine WL_ev .nil ?_
  refine exNat (n := 12) ⟨by lia, ?_⟩
  refine CompGo_filter (fun q => decide (q < m)) (fun q => .int (q : Nat)) (by simp [sizeLine]) (fun _ => trivial) ?_ ?_ ?_
  · rintro q pv J hq rfl cenv hc
    refine WIf_true ?_
    refine WB_Compare1 ?_
    refine WE_ListComp2 (C := C) (l2 := [(Str.ofString "abs", Value.builtin "abs")]) (capt := [(Str.ofString "plane", some (.int (q : Nat)))]) hc (by show compOk _ _ _ [Str.ofString "plane"] [Str.ofString "abs"] = true; decide +kernel) (by simp) (by intro p hp; rw [List.mem_singleton.mp hp]; exact mem0) (by intro p hp; simp only [List.mem_singleton] at hp; subst hp; exact .inr (c.glo _ _ (by decide +kernel))) ?_
    refine WItr_of ?_
    refine WE_ev (.name mem1) ?_
    refine ⟨_, _, _, Itb_list rm.han (show ObjAt C _ (.ref jv) _ from ojv.up), ?_⟩
    refine CompGo_filter (fun i => decide ((2 : Int) ^ q ≤ avi (v.getD i 0))) (fun i => .int (v.getD i 0)) (by have e3 : sizeLine = 16777216 := rfl; rw [List.length_map]; lia) (fun _ => ojv.up.up) ?_ ?_ ?_
    · rintro i pv J' hi hp cenv hc
      have hp := int_at hi hp
      subst hp
      refine WIf_true ?_
      refine WB_Compare1 ?_
      refine WE_call (C := C) mem0 callable_builtin ?_
      refine WL_consE (.name mem0) ?_; refine WL_ev .nil ?_
      refine WC_abs ?_
      rw [show (if v.getD i 0 < 0 then -v.getD i 0 else v.getD i 0) = avi (v.getD i 0) from rfl]
      refine WE_BinR (.name mem1) ?_; refine WE_ev .int ?_
      refine pow_ii (by lia) (by lia) (by decide) ?_
      rw [Int.toNat_natCast]
      refine ge_ii ?_; refine WTr_bool ?_; refine WIf_nil ?_
      exact ⟨rfl, _, rfl⟩
    · rintro i pv J' hi hp _ cenv hc
      have hp := int_at hi hp
      subst hp
      refine WE_ev (.name mem0) ?_
      exact ⟨rfl, _, rfl⟩
    intro J'
    have el : ((List.range ((v.map V.int).length)).filter fun i => decide ((2 : Int) ^ q ≤ avi (v.getD i 0))).map (fun i => V.int (v.getD i 0)) = (((List.range v.length).filter fun i => decide ((2 : Int) ^ q ≤ avi (v.getD i 0))).map fun i => v.getD i 0).map V.int := by rw [List.length_map, List.map_map]; rfl
    rw [el]
    generalize hys : ((List.range v.length).filter fun i => decide ((2 : Int) ^ q ≤ avi (v.getD i 0))).map (fun i => v.getD i 0) = ys
    refine WE_List ?_; refine WL_ev .nil ?_; refine szAnd ?_
    refine ne_dd (da := .list (ys.map .int)) (db := .list []) (Rd.lst (ObjAt.up (C := C) (ObjAt.new rfl))) (.list (ObjAt.new (C := C) rfl) .nil) (shaped_ints _) (by decide +kernel) rm.u ?_
    rw [eqv_nil]
    have eb : (!ys.isEmpty) = decide (q < m) := by
      have hany := dp.any hv hq
      by_cases hqm : q < m
      · obtain ⟨y, hy, hpy⟩ := hany.mpr hqm
        obtain ⟨i, hi, rfl⟩ := List.mem_iff_getElem.mp hy
        have : v[i] ∈ ys := by
          rw [← hys]
          exact List.mem_map.mpr ⟨i, List.mem_filter.mpr ⟨List.mem_range.mpr hi, by simp [List.getD, hi, hpy]⟩, by simp [List.getD, hi]⟩
        rw [decide_eq_true hqm]
        cases ys with
        | nil => cases this
        | cons _ _ => rfl
      · rw [decide_eq_false hqm]
        cases ys with
        | nil => rfl
        | cons y ys =>
          have hy : y ∈ ((List.range v.length).filter fun i => decide ((2 : Int) ^ q ≤ avi (v.getD i 0))).map (fun i => v.getD i 0) := by rw [hys]; exact .head _
          obtain ⟨i, hi, rfl⟩ := List.mem_map.mp hy
          obtain ⟨hi1, hi2⟩ := List.mem_filter.mp hi
          have hi' := List.mem_range.mp hi1
          exact absurd (hany.mp ⟨v.getD i 0, by simp [List.getD, hi'], of_decide_eq_true hi2⟩) hqm
    rw [eb]
    refine WTr_bool ?_; refine WIf_nil ?_
    exact ⟨rfl, _, by rw [List.append_assoc, List.append_assoc, List.append_assoc]⟩
  · rintro q pv J hq rfl _ cenv hc
    refine WE_ev (.name mem0) ?_
    exact ⟨rfl, _, rfl⟩
  intro J3
  refine WL_ev .nil ?_
  refine WC_lenE (n := m) (ObjAt.new (C := C) rfl) (by rw [List.length_map]; exact count_lt (by lia)) (by lia) ?_
  refine ne_ii ?_; refine WTr_bool ?_
  refine ite_f (by simp) ?_
  rw [List.append_assoc]
  generalize J3 ++ [O.list (((List.range 12).filter fun q => decide (q < m)).map fun q => V.int (q : Nat))] = J4
  replace T := T.up (J := J4)
  replace ojv := ojv.up (J := J4)
  generalize σ1 ++ J4 = σ1 at *
  refine WSs_nil ?_; refine Thn_next ?_; refine WSs_asgW ?_; refine WE_BinOp ?_; refine WE_List ?_; refine WL_consE .int ?_; refine WL_ev .nil ?_; refine szAnd ?_
  refine WE_call (C := C) mem8 callable_builtin ?_
  refine WL_consE (.name mem4) ?_; refine WL_ev .nil ?_
  refine WC_lenI ojv.up rfl zv ?_
  refine mul_li (x := (v.length : Int)) (xs := [.int 0]) (ObjAt.new (C := C) rfl) (by lia) (by lia) (by simp; lia) ?_
  rw [rep_one, Int.toNat_natCast]
  have ek : List.replicate v.length (V.int 0) = (v.map (cutv · m)).map V.int := by rw [← dp.start hv, List.map_replicate]
  rw [ek]
  replace T := T.up (J := [O.list [V.int 0]])
  replace ojv := ojv.up (J := [O.list [V.int 0]])
  generalize σ1 ++ [O.list [V.int 0]] = σb at *
  refine exUp up8 ?_; refine WSs_cons ?_
  generalize hκ : List.length σb = κ
  refine WS_for (WItr_rng rm.han mem9 ?_)
  refine WL_consE (.name mem7) ?_; refine WL_ev .nil ?_
  refine exRng (by lia) ?_
  refine ⟨fun i ρ' σ' => Ex7 fun J b1 b2 b3 b4 b5 b6 => And3 (σ' = σb ++ J) ((σb ++ J)[κ]? = some (.list ((v.map (cutv · (m - i))).map .int))) (ρ' = ([(Str.ofString "script", (some (.k (.ref a)))), (Str.ofString "width", (some (.int W))), (Str.ofString "height", (some (.int H))), (Str.ofString "tree", (some (.ref t))), (Str.ofString "values", (some (.ref jv))), (Str.ofString "k", t1), (Str.ofString "n", t2), (Str.ofString "depth", (some (.int m))), (Str.ofString "known", (some (.ref κ))), (Str.ofString "back", b1), (Str.ofString "plane", b2), (Str.ofString "writer", b3), (Str.ofString "before", b4), (Str.ofString "bits", b5), (Str.ofString "signs", b6)] : Loc)), ⟨[O.list ((v.map (cutv · m)).map V.int)], _, _, _, _, _, _, rfl, by rw [← hκ]; simp, rfl⟩, ?_, ?_⟩
  · rintro i ρ' σ' hi ⟨J, b1, b2, b3, b4, b5, b6, rfl, ok0, rfl⟩
    refine ⟨trivial, ?_⟩
    obtain ⟨p, hp⟩ : ∃ p : Nat, p = m - 1 - i := ⟨_, rfl⟩
    have hp5 : p ≤ 5 := by lia
    have ep : ((m : Int) - 1 - (i : Nat)) = (p : Int) := by lia
    rw [show m - i = p + 1 by lia] at ok0
    have xok := px_ok (p := p) tok hn hv hp5
    have kl : κ < (σb ++ J).length := (List.getElem?_eq_some_iff.mp ok0).1
    refine WAs_opq fun _ _ _ => ?_; refine WAs_name up9 ?_; refine WSs_asgW ?_; refine WE_BinR (.name mem9) ?_; refine WE_BinR .int ?_; refine WE_ev (.name mem7) ?_; refine sub_ii ?_; refine sub_ii ?_; refine exUp up10 ?_; refine WSs_asgW ?_
    rw [ep]
    refine WE_call (C := C) mem1 c.c213 ?_
    refine WL_ev .nil ?_
    refine new_writer c rm.le ?_
    refine exUp up11 ?_; refine WSs_expr ?_
    refine WE_call (C := C) mem4 c.c121 ?_
    refine WL_consE (.name mem11) ?_; refine WL_consE (.name mem3) ?_; refine WL_consE (.name mem4) ?_; refine WL_consE (.name mem10) ?_; refine WL_ev .nil ?_
    refine write_spec (v := v) (σb := σb ++ J) c rm.le T.wg.up tok hn (Rd.lst ojv.up).wg lv (Nat.le_refl _) wr_new xok ?_
    intro J2 rs2 wr2
    generalize hb1 : (σb ++ J).length = w1 at *
    have wl := (List.getElem?_eq_some_iff.mp wr2.l.bits).1
    refine WSs_asgW ?_; refine WE_BinL (.name mem8) ?_; refine WE_List ?_; refine WL_ev .nil ?_; refine szAnd ?_
    refine add_ll (xs := (v.map (cutv · (p + 1))).map V.int) (ys := []) (gl_up (gl_up ok0)) (ObjAt.new (C := C) rfl) (by simp; lia) ?_
    rw [List.append_nil]
    refine exUp up12 ?_; refine WSs_expr ?_
    refine WE_call (C := C) mem5 c.c128 ?_
    refine WL_cons ?_
    refine WE_call (C := C) mem2 c.c248 ?_
    refine WL_cons ?_
    refine WE_meth ?_
    refine WE_ev (.name mem11) ?_
    have wr3 := (wr2.up (J := [O.list []])).up (J := [O.list ((v.map (cutv · (p + 1))).map V.int)])
    refine WM_inst (f := 210) c.K clsW (by kernel_rfl) (by kernel_rfl) wr3.l.inst wr3.l.ns (by kernel_rfl) ⟨callable_K c.K (by kernel_rfl), ?_⟩
    refine WL_ev .nil ?_
    have wok := wst_ok (pxOf W H L v p).all
    have wk := wst_k (pxOf W H L v p).all
    have al : (pxOf W H L v p).all.length ≤ 3 * (W * H) := (pxOf W H L v p).all_len
    refine finish_spec c rm.le wr3.l wok.r.inv (by lia) ?_
    intro σ3 len3 same3
    have oβ : (σb ++ J ++ J2 ++ [O.list []] ++ [O.list ((v.map (cutv · (p + 1))).map V.int)])[(σb ++ J ++ J2 ++ [O.list []]).length]? = some (.list ((v.map (cutv · (p + 1))).map V.int)) := by simp
    generalize hβ : (σb ++ J ++ J2 ++ [O.list []]).length = β at *
    have hβ2 : (σb ++ J ++ J2).length < β := by rw [← hβ]; simp
    have βl := (List.getElem?_eq_some_iff.mp oβ).1
    refine WL_ev .nil ?_
    refine new_reader c rm.le (fin_bits wok.r.inv) (by rw [fin_len wok.r.inv]; lia) ?_
    intro σ4 r4
    generalize hr2 : σ3.length = r2 at *
    have lo4 : σb.length ≤ w1 := by rw [← hb1, List.length_append]; lia
    have s34 : ∀ j, j < r2 → σ4[j]? = σ3[j]? := fun j hj => by
      rw [r4.same j (by rw [List.length_append]; lia) (by lia), List.getElem?_append_left (by lia)]
    have s24 : ∀ j, j < (σb ++ J ++ J2 ++ [O.list []] ++ [O.list ((v.map (cutv · (p + 1))).map V.int)]).length → j ≠ w1 → j ≠ w1 + 5 → σ4[j]? = (σb ++ J ++ J2 ++ [O.list []] ++ [O.list ((v.map (cutv · (p + 1))).map V.int)])[j]? := fun j hj h1 h2 => by
      rw [s34 j (by lia)]; exact same3 j hj h1 h2
    have len4 : r2 ≤ σ4.length := by have := r4.len; rw [List.length_append] at this; lia
    obtain ⟨J4, hJ4⟩ : ∃ J4, σ4 = σb ++ J4 := ⟨_, pre_of (J := J ++ J2 ++ [O.list []] ++ [O.list ((v.map (cutv · (p + 1))).map V.int)]) (by lia) fun j hj => by
      rw [s24 j (by simp only [List.length_append]; lia) (by lia) (by lia)]; simp⟩
    have k4 : σ4[κ]? = some (.list ((v.map (cutv · (p + 1))).map .int)) := by
      rw [s24 κ (by simp only [List.length_append] at kl hb1 ⊢; lia) (by lia) (by lia)]
      exact gl_up (gl_up (gl_up ok0))
    have β4 : σ4[β]? = some (.list ((v.map (cutv · (p + 1))).map .int)) := by
      rw [s24 β βl (by simp only [List.length_append] at hβ2 hb1 wl; lia) (by simp only [List.length_append] at hβ2 hb1 wl; lia)]
      exact oβ
    have m0 : MdAt (σ3 ++ rJ σ3.length (bytesOf (wst (pxOf W H L v p).all).1.fin) ⟨0, 16777216, 0, 0⟩) (σ3.length + 2) [] cts0 := ⟨rJ_at (i := 2) rfl, rJ_at (i := 3) rfl, rJ_at (i := 4) rfl, fun e he => (nomatch he), by simp, by simp, fun e he => (nomatch he), fun k _ => rfl, fun e he => (nomatch he)⟩
    have r0 : RAt (σ3 ++ rJ σ3.length (bytesOf (wst (pxOf W H L v p).all).1.fin) ⟨0, 16777216, 0, 0⟩) (σ3 ++ rJ σ3.length (bytesOf (wst (pxOf W H L v p).all).1.fin) ⟨0, 16777216, 0, 0⟩) σ3.length (bytesOf (wst (pxOf W H L v p).all).1.fin) ⟨0, 16777216, 0, 0⟩ := ⟨rJ_at (i := 0) rfl, rJ_at (i := 1) rfl, Nat.le_refl _, fun _ _ _ => rfl⟩
    rw [hr2] at m0 r0
    have m4 := r4.mod r0 m0
    have βr : β < r2 := Nat.lt_of_lt_of_le βl len3
    have kr : κ < r2 := by lia
    subst hJ4
    refine WL_consE (.name mem3) ?_; refine WL_consE (.name mem8) ?_; refine WL_consE (.name mem10) ?_; refine WL_ev .nil ?_
    refine read_spec (v := v) (σb := σb) c rm.le T.wg tok hn lv xok (Nat.le_of_eq hκ) kr k4 ⟨_, ⟨⟨r4.ns, r4.inst, Nat.le_refl _, fun _ _ _ => rfl⟩, m4⟩, DOk.start _⟩ ?_
    intro J5 k5 s5
    have β5 : (σb ++ J5)[β]? = some (.list ((v.map (cutv · (p + 1))).map .int)) := by
      rw [s5 β βr (by simp only [List.length_append] at kl hβ2; lia)]; exact β4
    clear r4 s34 s24 len4 k4 β4 m0 r0 m4 s5 oβ same3 len3 wr3 wr2 wl
    have ok5 : ObjAt C (σb ++ J5) (.ref κ) (.list ((v.map (cutv · p)).map .int)) := k5
    have kn1000 : (v.map (cutv · p)).length ≤ 1000 := by rw [List.length_map]; exact lv1
    have z3 : ∀ l : List Int, l.length ≤ 1000 → (l.map V.int).length ≤ sizeLine := fun l h => by have e3 : sizeLine = 16777216 := rfl; rw [List.length_map]; lia
    have lk : (v.map (cutv · p)).length = v.length := List.length_map ..
    refine WSs_if ?_; refine WB_Compare1 ?_
    refine WE_call (C := C) mem6 c.c133 ?_
    refine WL_consE (.name mem8) ?_; refine WL_consE (.name mem10) ?_; refine WL_ev .nil ?_
    refine middled_spec c rm.le ok5 kn1000 (by lia) ?_
    rw [mids hv hp5]
    refine WE_ListComp2 (l2 := [(Str.ofString "plain_cut_down", Value.ref 264)]) (capt := [(Str.ofString "plane", some (.int p))]) henv (by show compOk _ _ _ [Str.ofString "plane"] [Str.ofString "plain_cut_down"] = true; decide +kernel) (by simp) (by intro p hp; rw [List.mem_singleton.mp hp]; exact mem10) (by intro p hp; simp only [List.mem_singleton] at hp; subst hp; exact .inr (c.glo _ _ (by decide +kernel))) ?_
    refine WItr_of ?_
    refine WE_ev (.name mem4) ?_
    refine ⟨_, _, _, Itb_list rm.han (show ObjAt C _ (.ref jv) _ from ojv.up.up), ?_⟩
    refine CompGo_ints (fun i => pcd (v.getD i 0) p) (z3 v lv1) ojv.up.up ?_ ?_
    · rintro i pv hi hp cenv hc
      have hp := int_at hi hp
      subst hp
      refine WE_call (C := C) mem0 c.c264 ?_
      refine WL_consE (.name mem0) ?_; refine WL_consE (.name mem1) ?_; refine WL_ev .nil ?_
      refine cut_spec (c.wg _) rm.le (small_get hv i) (by lia) ?_
      exact ⟨rfl, rfl⟩
    rw [List.length_map, map_getD_range v (pcd · p)]
    refine ne_dd (Rd.lst (ObjAt.up (C := C) (ObjAt.new rfl))) (Rd.lst (ObjAt.new (C := C) rfl)) (shaped_ints _) (shaped_ints _) rm.u ?_
    rw [show PyData.eqv (.list ((v.map (pcd · p)).map PyData.int)) (.list ((v.map (pcd · p)).map PyData.int)) = true from eqv_ints _]
    rw [List.append_assoc]
    replace ok5 : ObjAt C (σb ++ J5 ++ ([O.list ((v.map (pcd · p)).map V.int)] ++ [O.list ((v.map (pcd · p)).map V.int)])) (.ref κ) _ := ok5.up
    replace β5 := gl_up (J := [O.list ((v.map (pcd · p)).map V.int)] ++ [O.list ((v.map (pcd · p)).map V.int)]) β5
    rw [List.append_assoc] at ok5 β5 ⊢
    generalize J5 ++ ([O.list ((v.map (pcd · p)).map V.int)] ++ [O.list ((v.map (pcd · p)).map V.int)]) = J6 at *
    refine WTr_bool ?_; refine WSs_nil ?_; refine Thn_next ?_; refine WSs_cons ?_; refine WS_assign_tuple ?_
    refine WE_call (C := C) mem7 c.c257 ?_
    refine WL_consE (.name mem4) ?_; refine WL_consE (.name mem10) ?_; refine WL_ev .nil ?_
    refine bits_spec c rm.le ojv.up lv1 ?_
    obtain ⟨J7, hJ7⟩ : ∃ J7, J7 = [O.list ((v.map fun a => ((avi a).fdiv (2 ^ p)).fmod 2).map V.int), O.list ((newOnes v p).map V.bool), O.tuple [V.ref (σb ++ J6).length, V.ref ((σb ++ J6).length + 1)]] := ⟨_, rfl⟩
    have oT : ObjAt C (σb ++ J6 ++ J7) (.ref ((σb ++ J6).length + 2)) (.tuple [V.ref (σb ++ J6).length, V.ref ((σb ++ J6).length + 1)]) := by
      show (σb ++ J6 ++ J7)[_]? = _
      rw [List.getElem?_append_right (by lia), hJ7]; simp
    have oB : ObjAt C (σb ++ J6 ++ J7) (.ref (σb ++ J6).length) (.list ((v.map fun a => ((avi a).fdiv (2 ^ p)).fmod 2).map V.int)) := by
      show (σb ++ J6 ++ J7)[_]? = _
      rw [List.getElem?_append_right (by lia), hJ7]; simp
    have oS : ObjAt C (σb ++ J6 ++ J7) (.ref ((σb ++ J6).length + 1)) (.list ((newOnes v p).map V.bool)) := by
      show (σb ++ J6 ++ J7)[_]? = _
      rw [List.getElem?_append_right (by lia), hJ7]; simp
    rw [← hJ7]
    refine WAs_tuple rm.han (show ObjAt C _ _ _ from oT) ?_
    replace ok5 := ok5.up (J := J7)
    replace β5 := gl_up (J := J7) β5
    generalize (σb ++ J6).length = jb at *
    rw [List.append_assoc] at ok5 β5 oB oS ⊢
    clear oT hJ7
    generalize J6 ++ J7 = J8 at *
    refine WAsL_cons ?_; refine WAs_name up13 ?_; refine WAsL_cons ?_; refine WAs_name up14 ?_; refine WAsL_nil ?_; refine Thn_next ?_; refine WSs_if ?_; refine WB_CmpR (.name mem13) ?_
    refine WE_ListComp2 (l2 := [(Str.ofString "abs", Value.builtin "abs")]) (capt := [(Str.ofString "plane", some (.int p))]) henv (by show compOk _ _ _ [Str.ofString "plane"] [Str.ofString "abs"] = true; decide +kernel) (by simp) (by intro p hp; rw [List.mem_singleton.mp hp]; exact mem10) (by intro p hp; simp only [List.mem_singleton] at hp; subst hp; exact .inr (c.glo _ _ (by decide +kernel))) ?_
    refine WItr_of ?_
    refine WE_ev (.name mem8) ?_
    refine ⟨_, _, _, Itb_list rm.han (show ObjAt C _ (.ref κ) _ from ok5), ?_⟩
    refine CompGo_ints (fun i => ((avi ((v.map (cutv · p)).getD i 0)).fdiv (2 ^ p)).fmod 2) (z3 _ kn1000) ok5 ?_ ?_
    · rintro i pv hi hp cenv hc
      have hp := int_at hi hp
      subst hp
      generalize (v.map (cutv · p)).getD i 0 = y
      refine WE_BinR .int ?_; refine WE_BinR (.name mem1) ?_
      refine WE_call (C := C) mem0 callable_builtin ?_
      refine WL_consE (.name mem0) ?_; refine WL_ev .nil ?_
      refine WC_abs ?_
      rw [show (if y < 0 then -y else y) = avi y from rfl]
      refine shr_ii (by lia) ?_
      rw [Int.toNat_natCast]
      refine mod_ii (by decide) ?_
      exact ⟨rfl, rfl⟩
    rw [List.length_map, map_getD_range (v.map (cutv · p)) fun a => ((avi a).fdiv (2 ^ p)).fmod 2, bitss hv hp5]
    refine ne_dd (Rd.lst (ObjAt.new (C := C) rfl)) (Rd.lst (show ObjAt C _ _ _ from oB.up)) (shaped_ints _) (shaped_ints _) rm.u ?_
    rw [show PyData.eqv (.list ((v.map fun a => ((avi a).fdiv (2 ^ p)).fmod 2).map PyData.int)) (.list ((v.map fun a => ((avi a).fdiv (2 ^ p)).fmod 2).map PyData.int)) = true from eqv_ints _]
    replace ok5 := ok5.up (J := [O.list ((v.map fun a => ((avi a).fdiv (2 ^ p)).fmod 2).map V.int)])
    replace β5 := gl_up (J := [O.list ((v.map fun a => ((avi a).fdiv (2 ^ p)).fmod 2).map V.int)]) β5
    replace oS := oS.up (J := [O.list ((v.map fun a => ((avi a).fdiv (2 ^ p)).fmod 2).map V.int)])
    clear oB
    rw [List.append_assoc] at ok5 β5 oS ⊢
    generalize J8 ++ [O.list ((v.map fun a => ((avi a).fdiv (2 ^ p)).fmod 2).map V.int)] = J9 at *
    refine WTr_bool ?_; refine WSs_nil ?_; refine Thn_next ?_; refine WSs_if ?_; refine WB_CmpR (.name mem14) ?_
    refine WE_ListComp2 (l2 := []) (capt := [(Str.ofString "known", some (.ref κ)), (Str.ofString "before", some (.ref β))]) henv (by show compOk _ _ _ [Str.ofString "known", Str.ofString "before"] [] = true; decide +kernel) (by show [Str.ofString "known", Str.ofString "before"].Nodup; decide +kernel) (by
      intro p hp
      simp only [List.mem_cons, List.not_mem_nil, or_false] at hp
      rcases hp with rfl | rfl <;> first | exact mem8 | exact mem12) (by simp) ?_
    refine WItr_rng rm.han mem9 ?_
    refine WL_cons ?_
    refine WE_call (C := C) mem8 callable_builtin ?_
    refine WL_consE (.name mem8) ?_; refine WL_ev .nil ?_
    refine WC_lenI (show ObjAt C _ (.ref κ) _ from ok5) lk zv ?_
    refine WL_ev .nil ?_
    refine exRng zv ?_
    have gk : ∀ (q : Nat) k, k < v.length → (v.map (cutv · q)).getD k 0 = cutv (v.getD k 0) q := fun q k hk => by simp [List.getD, hk]
    refine CompGo_filter (fun k => decide (cutv (v.getD k 0) (p + 1) = 0) && decide (cutv (v.getD k 0) p ≠ 0)) (fun k => .bool (decide (cutv (v.getD k 0) p < 0))) (by have e3 : sizeLine = 16777216 := rfl; lia) (fun _ => trivial) ?_ ?_ ?_
    · rintro k pv J' hk rfl cenv hc
      refine WIf_true ?_
      refine WB_CmpR .int ?_; refine WE_SubR (.name mem0) ?_; refine WE_ev (.name mem2) ?_
      refine item_intN (P := v.map (cutv · (p + 1))) (show ObjAt C _ (.ref β) _ from ObjAt.up (J := J') β5) (by rw [List.length_map]; exact zv) (by rw [List.length_map]; exact hk) ?_
      rw [gk _ k hk]
      refine eq_ii ?_; refine WTr_bool ?_
      have e1 : (cutv (v.getD k 0) (p + 1) == 0) = decide (cutv (v.getD k 0) (p + 1) = 0) := rfl
      rw [e1]
      cases hd : decide (cutv (v.getD k 0) (p + 1) = 0) with
      | false =>
        refine WIf_false (WIf_nil ?_)
        exact ⟨rfl, _, rfl⟩
      | true =>
        refine WIf_true ?_
        refine WB_CmpR .int ?_; refine WE_SubR (.name mem0) ?_; refine WE_ev (.name mem1) ?_
        refine item_intN (P := v.map (cutv · p)) (show ObjAt C _ (.ref κ) _ from ok5.up) (by rw [List.length_map]; exact zv) (by rw [List.length_map]; exact hk) ?_
        rw [gk _ k hk]
        refine ne_ii ?_; refine WTr_bool ?_; refine WIf_nil ?_
        exact ⟨by rw [Bool.true_and]; exact (decide_not (p := cutv (v.getD k 0) p = 0)).symm, _, rfl⟩
    · rintro k pv J' hk rfl _ cenv hc
      refine WE_CmpR .int ?_; refine WE_SubR (.name mem0) ?_; refine WE_ev (.name mem1) ?_
      refine item_intN (P := v.map (cutv · p)) (show ObjAt C _ (.ref κ) _ from ok5.up) (by rw [List.length_map]; exact zv) (by rw [List.length_map]; exact hk) ?_
      rw [gk _ k hk]
      refine lt_ii ?_
      exact ⟨rfl, _, rfl⟩
    intro J'
    have en : ((List.range v.length).filter fun k => decide (cutv (v.getD k 0) (p + 1) = 0) && decide (cutv (v.getD k 0) p ≠ 0)).map (fun k => V.bool (decide (cutv (v.getD k 0) p < 0))) = (newOnes v p).map V.bool := by rw [← news hv hp5, List.map_map]; rfl
    rw [en]
    refine ne_dd (rd_bools (ObjAt.new (C := C) rfl)) (rd_bools (show ObjAt C _ _ _ from oS.up.up)) (shaped_bools _) (shaped_bools _) rm.u ?_
    rw [show PyData.eqv (.list ((newOnes v p).map PyData.bool)) (.list ((newOnes v p).map PyData.bool)) = true from eqv_bools _]
    refine WTr_bool ?_; refine WSs_nil ?_; refine Thn_next ?_; refine WSs_nil ?_; refine hOf (by assumption) ?_; refine LoopPost_next ?_
    refine ⟨J9 ++ J' ++ [O.list ((newOnes v p).map V.bool)], _, _, _, _, _, _, by simp, ?_, rfl⟩
    rw [show m - (i + 1) = p by lia, ← List.append_assoc, ← List.append_assoc]
    exact ok5.up.up
  · rintro ρ' σ' ⟨J, b1, b2, b3, b4, b5, b6, rfl, ok0, rfl⟩
    refine ⟨trivial, ?_⟩
    rw [Nat.sub_self, whole hv] at ok0
    refine Thn_next ?_; refine WSs_ret ?_; refine WE_CmpR (.name mem4) ?_; refine WE_ev (.name mem8) ?_
    refine eq_dd (Rd.lst (show ObjAt C _ (.ref κ) _ from ok0)) (Rd.lst ojv.up) (shaped_ints _) (shaped_ints _) rm.u ?_
    refine hOf (by assumption) ?_
    show V.bool (PyData.eqvAll _ _) = _
    rw [eqv_ints]
end Mine

-- part T15e
open PySem PySem.W PyProof.Rows Mine
theorem PySem.Challenge.cw_ui0502_15_holds : PySem.Challenge.rw_ui0502_15.Holds := by
  refine Mine.hd.all ?_
  intro w s₀ s₁ mg mb G Y fa o pm cd doc dV kV ho hd' hcd hD hmg hg args vals as hpre hlay hrd hwl hlo
  have KX : (hd.heap_39 w.params).In s₁.heap := kIn_of (K := hd.heap_39) (as := hd.as) (e := fun _ => by kernel_rfl) Y
  refine Ground.open G ?_
  intro T B D TE TW
  have hfa : fa = 276 := by
    have h1 := mg_of (n := Str.ofString "law") KX T.g (v := .ref 276) (by kernel_rfl)
    have h2 : mg (Str.ofString "law") = some (.ref fa) := hmg
    rw [h1] at h2
    injection h2 with h2
    injection h2 with h2
    exact h2.symm
  subst hfa
  clear hd' hcd hD hmg ho
  wrow_args hpre hlay hrd hwl hlo
  rename_i ns _ _ _ _ _ _ _ a vs _ hL _ _ _ hI _ hlen _
  let C : Cx := { prog := PySem.Challenge.rw_ui0502_15.row.prog, w := w, G := s₁.heap, gob := (a, .list (ns.map .int)) :: topObjs, glo := [], mg := mg, mb := mb }
  have glb : ∀ x v, nsIn (hd.heap_39 w.params) mainGlobals x = some none → bootBuiltins x = some v → x ≠ Str.ofString "__name__" → mg x = some v ∨ (mg x = none ∧ mb x = some v) :=
    fun x v e1 e2 e3 => .inr ⟨mg_none_of KX T.g e1, (T.builtins x e3).trans e2⟩
  have c : Law C := by
    refine ⟨KX, fun x hx => List.mem_cons_of_mem _ hx, ?_, ?_⟩
    rotate_left
    · obtain ⟨C', O, _⟩ := T.ownAt (x := Str.ofString "PackError") (newId := "ValueError.__new__") (bm := [.type "ValueError", .type "Exception", .type "BaseException", .type "object"]) (by kernel_rfl)
      have h1 : mg (Str.ofString "PackError") = some (.ref 31) := mg_of KX T.g (by kernel_rfl)
      have h2 := O.bound
      rw [h1] at h2
      injection h2 with h2
      injection h2 with h2
      subst h2
      exact O.own
    intro x v hx
    simp only [lawGlo, List.mem_cons, List.not_mem_nil, or_false] at hx
    rcases hx with e | e | e | e | e | e | e | e | e | e | e | e | e | e | e | e | e | e | e | e | e | e | e | e | e | e | e | e <;> cases e
    · exact glb _ _ (by kernel_rfl) (by boot_by_name) (by decide)
    · exact glb _ _ (by kernel_rfl) (by boot_by_name) (by decide)
    · exact glb _ _ (by kernel_rfl) (by boot_by_name) (by decide)
    · exact glb _ _ (by kernel_rfl) (by boot_by_name) (by decide)
    · exact glb _ _ (by kernel_rfl) (by boot_by_name) (by decide)
    · exact glb _ _ (by kernel_rfl) (by boot_by_name) (by decide)
    · exact glb _ _ (by kernel_rfl) (by boot_by_name) (by decide)
    · exact glb _ _ (by kernel_rfl) (by boot_by_name) (by decide)
    · exact glb _ _ (by kernel_rfl) (by boot_by_name) (by decide)
    · exact .inl (mg_of KX T.g (by kernel_rfl))
    · exact .inl (mg_of KX T.g (by kernel_rfl))
    · exact .inl (mg_of KX T.g (by kernel_rfl))
    · exact .inl (mg_of KX T.g (by kernel_rfl))
    · exact .inl (mg_of KX T.g (by kernel_rfl))
    · exact .inl (mg_of KX T.g (by kernel_rfl))
    · exact .inl (mg_of KX T.g (by kernel_rfl))
    · exact .inl (mg_of KX T.g (by kernel_rfl))
    · exact .inl (mg_of KX T.g (by kernel_rfl))
    · exact .inl (mg_of KX T.g (by kernel_rfl))
    · exact .inl (mg_of KX T.g (by kernel_rfl))
    · exact .inl (mg_of KX T.g (by kernel_rfl))
    · exact .inl (mg_of KX T.g (by kernel_rfl))
    · exact .inl (mg_of KX T.g (by kernel_rfl))
    · exact .inl (mg_of KX T.g (by kernel_rfl))
    · exact .inl (mg_of KX T.g (by kernel_rfl))
    · exact .inl (mg_of KX T.g (by kernel_rfl))
    · exact .inl (mg_of KX T.g (by kernel_rfl))
    · exact .inl (mg_of KX T.g (by kernel_rfl))
  have ok : C.Ok := by
    refine ⟨?_, T.g, T.b, fun x v hx => (nomatch hx), T.nolimit⟩
    · intro b o hb
      rcases List.mem_cons.mp hb with e | hb'
      · cases e
        exact ⟨vs.toArray, hL, by simpa using RVs.ints hI⟩
      · exact topObjs_ok KX b o hb'
  exact bridge PySem.Challenge.rw_ui0502_15 (C := C) rfl rfl rfl ok hg (law_main c (.head _) (by lia) (fun x hx => List.mem_cons_of_mem _ hx))

