import PyProof.Rows.All
import Wide.All
import OpenK.AllK
import Wide.FinOn
import KE.KTryMore
import PySem.Challenge.RW_ui0502_14
set_option Elab.async false
set_option maxRecDepth 100000
set_option maxHeartbeats 8000000
-- part T14h
namespace Mine
open PySem PySem.W PyProof.Rows
section
noncomputable def sAt (i : Nat) : Stmt := match PySem.Challenge.pw_ui0502_14.main.body[i]? with | some s => s | none => .Pass ⟨0, 0, 0, 0⟩
noncomputable def cB : Stmt → List Stmt
  | .ClassDef _ _ _ b _ _ _ _ _ _ _ => b
  | _ => []
noncomputable def sIn (i j : Nat) : Stmt := match (cB (sAt i))[j]? with | some s => s | none => .Pass ⟨0, 0, 0, 0⟩
noncomputable def fP : Stmt → Arguments
  | .FunctionDef _ a _ _ _ _ _ _ _ _ => a
  | _ => ⟨[], [], none, [], [], none, []⟩
noncomputable def fB : Stmt → List Stmt
  | .FunctionDef _ _ b _ _ _ _ _ _ _ => b
  | _ => []
noncomputable def fS : Stmt → Scope
  | .FunctionDef _ _ _ _ _ _ s _ _ _ => s
  | _ => { kind := .function, names := [], isGenerator := false, isCoroutine := false }
noncomputable def hd.heap_39 : Params → Frag := fun P => [(2, { cls := PySem.Value.none, data := PySem.Data.dict #[] }),
  (3, { cls := PySem.Value.type "dict", data := PySem.Data.dict #[{ hash := PySem.PyData.keyHash P (PySem.Str.ofString "__name__"), key := PySem.Value.str (PySem.Str.ofString "__name__") 165, val := PySem.Value.str (PySem.Str.ofString "law_ui0502_14") 581 }, { hash := PySem.PyData.keyHash P (PySem.Str.ofString "__doc__"), key := PySem.Value.str (PySem.Str.ofString "__doc__") 166, val := PySem.Value.none }, { hash := PySem.PyData.keyHash P (PySem.Str.ofString "__package__"), key := PySem.Value.str (PySem.Str.ofString "__package__") 167, val := PySem.Value.none }, { hash := PySem.PyData.keyHash P (PySem.Str.ofString "__loader__"), key := PySem.Value.str (PySem.Str.ofString "__loader__") 168, val := PySem.Value.builtin "__main__.__loader__#opaque" }, { hash := PySem.PyData.keyHash P (PySem.Str.ofString "__spec__"), key := PySem.Value.str (PySem.Str.ofString "__spec__") 169, val := PySem.Value.none }, { hash := PySem.PyData.keyHash P (PySem.Str.ofString "__annotations__"), key := PySem.Value.str (PySem.Str.ofString "__annotations__") 170, val := PySem.Value.ref 6 }, { hash := PySem.PyData.keyHash P (PySem.Str.ofString "__builtins__"), key := PySem.Value.str (PySem.Str.ofString "__builtins__") 171, val := PySem.Value.ref 4 }, { hash := PySem.PyData.keyHash P (PySem.Str.ofString "__file__"), key := PySem.Value.str (PySem.Str.ofString "__file__") 173, val := PySem.Value.str (PySem.Str.ofString "/claim/cut.py") 172 }, { hash := PySem.PyData.keyHash P (PySem.Str.ofString "__cached__"), key := PySem.Value.str (PySem.Str.ofString "__cached__") 174, val := PySem.Value.none }, { hash := PySem.PyData.keyHash P (PySem.Str.ofString "PackError"), key := PySem.Value.str (PySem.Str.ofString "PackError") 206, val := PySem.Value.ref 24 }, { hash := PySem.PyData.keyHash P (PySem.Str.ofString "shown"), key := PySem.Value.str (PySem.Str.ofString "shown") 213, val := PySem.Value.ref 34 }, { hash := PySem.PyData.keyHash P (PySem.Str.ofString "need_number"), key := PySem.Value.str (PySem.Str.ofString "need_number") 223, val := PySem.Value.ref 41 }, { hash := PySem.PyData.keyHash P (PySem.Str.ofString "STEPS"), key := PySem.Value.str (PySem.Str.ofString "STEPS") 348, val := PySem.Value.ref 42 }, { hash := PySem.PyData.keyHash P (PySem.Str.ofString "KINDS"), key := PySem.Value.str (PySem.Str.ofString "KINDS") 354, val := PySem.Value.ref 94 }, { hash := PySem.PyData.keyHash P (PySem.Str.ofString "BORDERS"), key := PySem.Value.str (PySem.Str.ofString "BORDERS") 358, val := PySem.Value.ref 95 }, { hash := PySem.PyData.keyHash P (PySem.Str.ofString "need_kind"), key := PySem.Value.str (PySem.Str.ofString "need_kind") 365, val := PySem.Value.ref 102 }, { hash := PySem.PyData.keyHash P (PySem.Str.ofString "need_border"), key := PySem.Value.str (PySem.Str.ofString "need_border") 372, val := PySem.Value.ref 109 }, { hash := PySem.PyData.keyHash P (PySem.Str.ofString "place"), key := PySem.Value.str (PySem.Str.ofString "place") 381, val := PySem.Value.ref 116 }, { hash := PySem.PyData.keyHash P (PySem.Str.ofString "_turn"), key := PySem.Value.str (PySem.Str.ofString "_turn") 398, val := PySem.Value.ref 123 }, { hash := PySem.PyData.keyHash P (PySem.Str.ofString "forward"), key := PySem.Value.str (PySem.Str.ofString "forward") 410, val := PySem.Value.ref 150 }, { hash := PySem.PyData.keyHash P (PySem.Str.ofString "forward_steps"), key := PySem.Value.str (PySem.Str.ofString "forward_steps") 411, val := PySem.Value.ref 130 }, { hash := PySem.PyData.keyHash P (PySem.Str.ofString "MOST_LEVELS"), key := PySem.Value.str (PySem.Str.ofString "MOST_LEVELS") 415, val := PySem.Value.int 6 414 }, { hash := PySem.PyData.keyHash P (PySem.Str.ofString "turned"), key := PySem.Value.str (PySem.Str.ofString "turned") 421, val := PySem.Value.ref 135 }, { hash := PySem.PyData.keyHash P (PySem.Str.ofString "part_rows"), key := PySem.Value.str (PySem.Str.ofString "part_rows") 427, val := PySem.Value.ref 140 }, { hash := PySem.PyData.keyHash P (PySem.Str.ofString "part_columns"), key := PySem.Value.str (PySem.Str.ofString "part_columns") 433, val := PySem.Value.ref 145 }, { hash := PySem.PyData.keyHash P (PySem.Str.ofString "forward_waves"), key := PySem.Value.str (PySem.Str.ofString "forward_waves") 440, val := PySem.Value.ref 150 }, { hash := PySem.PyData.keyHash P (PySem.Str.ofString "shapes"), key := PySem.Value.str (PySem.Str.ofString "shapes") 453, val := PySem.Value.ref 157 }, { hash := PySem.PyData.keyHash P (PySem.Str.ofString "Trees"), key := PySem.Value.str (PySem.Str.ofString "Trees") 554, val := PySem.Value.ref 207 }, { hash := PySem.PyData.keyHash P (PySem.Str.ofString "_rows"), key := PySem.Value.str (PySem.Str.ofString "_rows") 567, val := PySem.Value.ref 218 }, { hash := PySem.PyData.keyHash P (PySem.Str.ofString "plain_greatest"), key := PySem.Value.str (PySem.Str.ofString "plain_greatest") 580, val := PySem.Value.ref 225 }, { hash := PySem.PyData.keyHash P (PySem.Str.ofString "_law_cell"), key := PySem.Value.str (PySem.Str.ofString "_law_cell") 590, val := PySem.Value.ref 232 }, { hash := PySem.PyData.keyHash P (PySem.Str.ofString "_law_image"), key := PySem.Value.str (PySem.Str.ofString "_law_image") 596, val := PySem.Value.ref 237 }, { hash := PySem.PyData.keyHash P (PySem.Str.ofString "law"), key := PySem.Value.str (PySem.Str.ofString "law") 602, val := PySem.Value.ref 242 }] 33 }),
  (15, { cls := PySem.Value.type "tuple", data := PySem.Data.seq #[PySem.Value.type "ValueError"] }),
  (22, { cls := PySem.Value.type "tuple", data := PySem.Data.seq #[] }),
  (23, { cls := PySem.Value.type "dict", data := PySem.Data.dict #[{ hash := PySem.PyData.keyHash P (PySem.Str.ofString "__module__"), key := PySem.Value.str (PySem.Str.ofString "__module__") 196, val := PySem.Value.str (PySem.Str.ofString "lifting.errors") 187 }, { hash := PySem.PyData.keyHash P (PySem.Str.ofString "__firstlineno__"), key := PySem.Value.str (PySem.Str.ofString "__firstlineno__") 200, val := PySem.Value.int 2 199 }, { hash := PySem.PyData.keyHash P (PySem.Str.ofString "__static_attributes__"), key := PySem.Value.str (PySem.Str.ofString "__static_attributes__") 201, val := PySem.Value.ref 22 }, { hash := PySem.PyData.keyHash P (PySem.Str.ofString "__weakref__"), key := PySem.Value.str (PySem.Str.ofString "__weakref__") 203, val := PySem.Value.ref 25 }, { hash := PySem.PyData.keyHash P (PySem.Str.ofString "__doc__"), key := PySem.Value.str (PySem.Str.ofString "__doc__") 204, val := PySem.Value.none }] 3 }),
  (24, { cls := PySem.Value.type "type", data := PySem.Data.cls { name := PySem.Str.ofString "PackError", bases := [PySem.Value.type "ValueError"], mro := [PySem.Value.ref 24, PySem.Value.type "ValueError", PySem.Value.type "Exception", PySem.Value.type "BaseException", PySem.Value.type "object"], ns := 23, qualname := PySem.Str.ofString "PackError" }, slots := #[some (PySem.Value.ref 15), none, some (PySem.Value.str (PySem.Str.ofString "PackError") 189), some (PySem.Value.str (PySem.Str.ofString "PackError") 197), some (PySem.Value.builtin "ValueError.__new__"), some (PySem.Value.bool true)] }),
  (25, { cls := PySem.Value.type "getset_descriptor", data := PySem.Data.fields #[PySem.Value.str (PySem.Str.ofString "__weakref__") 202, PySem.Value.ref 24, PySem.Value.builtin "ExceptionGroup.__weakref__", PySem.Value.none] }),
  (28, { cls := PySem.Value.type "tuple", data := PySem.Data.seq #[] }),
  (30, { cls := PySem.Value.type "tuple", data := PySem.Data.seq #[PySem.Value.str (PySem.Str.ofString "value") 210] }),
  (31, { cls := PySem.Value.type "tuple", data := PySem.Data.seq #[] }),
  (33, { cls := PySem.Value.type "code", data := PySem.Data.fields #[PySem.Value.str (PySem.Str.ofString "shown") 207, PySem.Value.str (PySem.Str.ofString "shown") 208, PySem.Value.str (PySem.Str.ofString "/claim/cut.py") 209, PySem.Value.int 4 0, PySem.Value.int 1 0, PySem.Value.int 0 0, PySem.Value.int 0 0, PySem.Value.int 3 0, PySem.Value.ref 28, PySem.Value.bool true, PySem.Value.int 181 0, PySem.Value.ref 29, PySem.Value.none, PySem.Value.ref 30, PySem.Value.ref 31, PySem.Value.ref 32, PySem.Value.int 211 0, PySem.Value.int 4 0, PySem.Value.str (PySem.Str.ofString "/claim/cut.py") 212] }),
  (34, { cls := PySem.Value.type "function", data := PySem.Data.func { name := PySem.Str.ofString "shown", qualname := PySem.Str.ofString "shown", params := fP (sAt 2), body := PySem.FuncBody.stmts (fB (sAt 2)), scope := fS (sAt 2), globals := 3, closure := [], defaults := PySem.Value.none, kwdefaults := PySem.Value.none, pyModule := PySem.Value.str (PySem.Str.ofString "lifting.errors") 187, code := PySem.Value.ref 33 } }),
  (35, { cls := PySem.Value.type "tuple", data := PySem.Data.seq #[] }),
  (37, { cls := PySem.Value.type "tuple", data := PySem.Data.seq #[PySem.Value.str (PySem.Str.ofString "value") 217, PySem.Value.str (PySem.Str.ofString "least") 218, PySem.Value.str (PySem.Str.ofString "most") 219, PySem.Value.str (PySem.Str.ofString "what") 220] }),
  (38, { cls := PySem.Value.type "tuple", data := PySem.Data.seq #[] }),
  (40, { cls := PySem.Value.type "code", data := PySem.Data.fields #[PySem.Value.str (PySem.Str.ofString "need_number") 214, PySem.Value.str (PySem.Str.ofString "need_number") 215, PySem.Value.str (PySem.Str.ofString "/claim/cut.py") 216, PySem.Value.int 10 0, PySem.Value.int 4 0, PySem.Value.int 0 0, PySem.Value.int 0 0, PySem.Value.int 3 0, PySem.Value.ref 35, PySem.Value.bool true, PySem.Value.int 181 0, PySem.Value.ref 36, PySem.Value.none, PySem.Value.ref 37, PySem.Value.ref 38, PySem.Value.ref 39, PySem.Value.int 221 0, PySem.Value.int 10 0, PySem.Value.str (PySem.Str.ofString "/claim/cut.py") 222] }),
  (41, { cls := PySem.Value.type "function", data := PySem.Data.func { name := PySem.Str.ofString "need_number", qualname := PySem.Str.ofString "need_number", params := fP (sAt 3), body := PySem.FuncBody.stmts (fB (sAt 3)), scope := fS (sAt 3), globals := 3, closure := [], defaults := PySem.Value.none, kwdefaults := PySem.Value.none, pyModule := PySem.Value.str (PySem.Str.ofString "lifting.errors") 187, code := PySem.Value.ref 40 } }),
  (42, { cls := PySem.Value.type "dict", data := PySem.Data.dict #[{ hash := PySem.PyData.keyHash P (PySem.Str.ofString "haar"), key := PySem.Value.str (PySem.Str.ofString "haar") 226, val := PySem.Value.ref 49 }, { hash := PySem.PyData.keyHash P (PySem.Str.ofString "five"), key := PySem.Value.str (PySem.Str.ofString "five") 240, val := PySem.Value.ref 58 }, { hash := PySem.PyData.keyHash P (PySem.Str.ofString "six"), key := PySem.Value.str (PySem.Str.ofString "six") 259, val := PySem.Value.ref 69 }, { hash := PySem.PyData.keyHash P (PySem.Str.ofString "nine"), key := PySem.Value.str (PySem.Str.ofString "nine") 284, val := PySem.Value.ref 80 }, { hash := PySem.PyData.keyHash P (PySem.Str.ofString "thirteen"), key := PySem.Value.str (PySem.Str.ofString "thirteen") 310, val := PySem.Value.ref 93 }] 5 }),
  (43, { cls := PySem.Value.type "tuple", data := PySem.Data.seq #[PySem.Value.int 0 230, PySem.Value.int 1 231] }),
  (44, { cls := PySem.Value.type "list", data := PySem.Data.seq #[PySem.Value.ref 43] }),
  (45, { cls := PySem.Value.type "tuple", data := PySem.Data.seq #[PySem.Value.str (PySem.Str.ofString "odd") 227, PySem.Value.int (-1) 229, PySem.Value.ref 44, PySem.Value.int 0 232, PySem.Value.int 0 233] }),
  (46, { cls := PySem.Value.type "tuple", data := PySem.Data.seq #[PySem.Value.int 0 236, PySem.Value.int 1 237] }),
  (47, { cls := PySem.Value.type "list", data := PySem.Data.seq #[PySem.Value.ref 46] }),
  (48, { cls := PySem.Value.type "tuple", data := PySem.Data.seq #[PySem.Value.str (PySem.Str.ofString "even") 234, PySem.Value.int 1 235, PySem.Value.ref 47, PySem.Value.int 0 238, PySem.Value.int 1 239] }),
  (49, { cls := PySem.Value.type "list", data := PySem.Data.seq #[PySem.Value.ref 45, PySem.Value.ref 48] }),
  (50, { cls := PySem.Value.type "tuple", data := PySem.Data.seq #[PySem.Value.int 0 244, PySem.Value.int 1 245] }),
  (51, { cls := PySem.Value.type "tuple", data := PySem.Data.seq #[PySem.Value.int 1 246, PySem.Value.int 1 247] }),
  (52, { cls := PySem.Value.type "list", data := PySem.Data.seq #[PySem.Value.ref 50, PySem.Value.ref 51] }),
  (53, { cls := PySem.Value.type "tuple", data := PySem.Data.seq #[PySem.Value.str (PySem.Str.ofString "odd") 241, PySem.Value.int (-1) 243, PySem.Value.ref 52, PySem.Value.int 0 248, PySem.Value.int 1 249] }),
  (54, { cls := PySem.Value.type "tuple", data := PySem.Data.seq #[PySem.Value.int (-1) 253, PySem.Value.int 1 254] }),
  (55, { cls := PySem.Value.type "tuple", data := PySem.Data.seq #[PySem.Value.int 0 255, PySem.Value.int 1 256] }),
  (56, { cls := PySem.Value.type "list", data := PySem.Data.seq #[PySem.Value.ref 54, PySem.Value.ref 55] }),
  (57, { cls := PySem.Value.type "tuple", data := PySem.Data.seq #[PySem.Value.str (PySem.Str.ofString "even") 250, PySem.Value.int 1 251, PySem.Value.ref 56, PySem.Value.int 2 257, PySem.Value.int 2 258] }),
  (58, { cls := PySem.Value.type "list", data := PySem.Data.seq #[PySem.Value.ref 53, PySem.Value.ref 57] }),
  (59, { cls := PySem.Value.type "tuple", data := PySem.Data.seq #[PySem.Value.int 0 263, PySem.Value.int 1 264] }),
  (60, { cls := PySem.Value.type "list", data := PySem.Data.seq #[PySem.Value.ref 59] }),
  (61, { cls := PySem.Value.type "tuple", data := PySem.Data.seq #[PySem.Value.str (PySem.Str.ofString "odd") 260, PySem.Value.int (-1) 262, PySem.Value.ref 60, PySem.Value.int 0 265, PySem.Value.int 0 266] }),
  (62, { cls := PySem.Value.type "tuple", data := PySem.Data.seq #[PySem.Value.int 0 269, PySem.Value.int 1 270] }),
  (63, { cls := PySem.Value.type "list", data := PySem.Data.seq #[PySem.Value.ref 62] }),
  (64, { cls := PySem.Value.type "tuple", data := PySem.Data.seq #[PySem.Value.str (PySem.Str.ofString "even") 267, PySem.Value.int 1 268, PySem.Value.ref 63, PySem.Value.int 0 271, PySem.Value.int 1 272] }),
  (65, { cls := PySem.Value.type "tuple", data := PySem.Data.seq #[PySem.Value.int (-1) 277, PySem.Value.int (-1) 279] }),
  (66, { cls := PySem.Value.type "tuple", data := PySem.Data.seq #[PySem.Value.int 1 280, PySem.Value.int 1 281] }),
  (67, { cls := PySem.Value.type "list", data := PySem.Data.seq #[PySem.Value.ref 65, PySem.Value.ref 66] }),
  (68, { cls := PySem.Value.type "tuple", data := PySem.Data.seq #[PySem.Value.str (PySem.Str.ofString "odd") 273, PySem.Value.int (-1) 275, PySem.Value.ref 67, PySem.Value.int 2 282, PySem.Value.int 2 283] }),
  (69, { cls := PySem.Value.type "list", data := PySem.Data.seq #[PySem.Value.ref 61, PySem.Value.ref 64, PySem.Value.ref 68] }),
  (70, { cls := PySem.Value.type "tuple", data := PySem.Data.seq #[PySem.Value.int (-1) 289, PySem.Value.int (-1) 291] }),
  (71, { cls := PySem.Value.type "tuple", data := PySem.Data.seq #[PySem.Value.int 0 292, PySem.Value.int 9 293] }),
  (72, { cls := PySem.Value.type "tuple", data := PySem.Data.seq #[PySem.Value.int 1 294, PySem.Value.int 9 295] }),
  (73, { cls := PySem.Value.type "tuple", data := PySem.Data.seq #[PySem.Value.int 2 296, PySem.Value.int (-1) 298] }),
  (74, { cls := PySem.Value.type "list", data := PySem.Data.seq #[PySem.Value.ref 70, PySem.Value.ref 71, PySem.Value.ref 72, PySem.Value.ref 73] }),
  (75, { cls := PySem.Value.type "tuple", data := PySem.Data.seq #[PySem.Value.str (PySem.Str.ofString "odd") 285, PySem.Value.int (-1) 287, PySem.Value.ref 74, PySem.Value.int 8 299, PySem.Value.int 4 300] }),
  (76, { cls := PySem.Value.type "tuple", data := PySem.Data.seq #[PySem.Value.int (-1) 304, PySem.Value.int 1 305] }),
  (77, { cls := PySem.Value.type "tuple", data := PySem.Data.seq #[PySem.Value.int 0 306, PySem.Value.int 1 307] }),
  (78, { cls := PySem.Value.type "list", data := PySem.Data.seq #[PySem.Value.ref 76, PySem.Value.ref 77] }),
  (79, { cls := PySem.Value.type "tuple", data := PySem.Data.seq #[PySem.Value.str (PySem.Str.ofString "even") 301, PySem.Value.int 1 302, PySem.Value.ref 78, PySem.Value.int 2 308, PySem.Value.int 2 309] }),
  (80, { cls := PySem.Value.type "list", data := PySem.Data.seq #[PySem.Value.ref 75, PySem.Value.ref 79] }),
  (81, { cls := PySem.Value.type "tuple", data := PySem.Data.seq #[PySem.Value.int (-1) 315, PySem.Value.int (-1) 317] }),
  (82, { cls := PySem.Value.type "tuple", data := PySem.Data.seq #[PySem.Value.int 0 318, PySem.Value.int 9 319] }),
  (83, { cls := PySem.Value.type "tuple", data := PySem.Data.seq #[PySem.Value.int 1 320, PySem.Value.int 9 321] }),
  (84, { cls := PySem.Value.type "tuple", data := PySem.Data.seq #[PySem.Value.int 2 322, PySem.Value.int (-1) 324] }),
  (85, { cls := PySem.Value.type "list", data := PySem.Data.seq #[PySem.Value.ref 81, PySem.Value.ref 82, PySem.Value.ref 83, PySem.Value.ref 84] }),
  (86, { cls := PySem.Value.type "tuple", data := PySem.Data.seq #[PySem.Value.str (PySem.Str.ofString "odd") 311, PySem.Value.int (-1) 313, PySem.Value.ref 85, PySem.Value.int 8 325, PySem.Value.int 4 326] }),
  (87, { cls := PySem.Value.type "tuple", data := PySem.Data.seq #[PySem.Value.int (-2) 330, PySem.Value.int (-1) 332] }),
  (88, { cls := PySem.Value.type "tuple", data := PySem.Data.seq #[PySem.Value.int (-1) 334, PySem.Value.int 9 335] }),
  (89, { cls := PySem.Value.type "tuple", data := PySem.Data.seq #[PySem.Value.int 0 336, PySem.Value.int 9 337] }),
  (90, { cls := PySem.Value.type "tuple", data := PySem.Data.seq #[PySem.Value.int 1 338, PySem.Value.int (-1) 340] }),
  (91, { cls := PySem.Value.type "list", data := PySem.Data.seq #[PySem.Value.ref 87, PySem.Value.ref 88, PySem.Value.ref 89, PySem.Value.ref 90] }),
  (92, { cls := PySem.Value.type "tuple", data := PySem.Data.seq #[PySem.Value.str (PySem.Str.ofString "even") 327, PySem.Value.int 1 328, PySem.Value.ref 91, PySem.Value.int 16 341, PySem.Value.int 5 342] }),
  (93, { cls := PySem.Value.type "list", data := PySem.Data.seq #[PySem.Value.ref 86, PySem.Value.ref 92] }),
  (94, { cls := PySem.Value.type "list", data := PySem.Data.seq #[PySem.Value.str (PySem.Str.ofString "haar") 349, PySem.Value.str (PySem.Str.ofString "five") 350, PySem.Value.str (PySem.Str.ofString "six") 351, PySem.Value.str (PySem.Str.ofString "nine") 352, PySem.Value.str (PySem.Str.ofString "thirteen") 353] }),
  (95, { cls := PySem.Value.type "list", data := PySem.Data.seq #[PySem.Value.str (PySem.Str.ofString "edge") 355, PySem.Value.str (PySem.Str.ofString "mirror") 356, PySem.Value.str (PySem.Str.ofString "ring") 357] }),
  (96, { cls := PySem.Value.type "tuple", data := PySem.Data.seq #[] }),
  (98, { cls := PySem.Value.type "tuple", data := PySem.Data.seq #[PySem.Value.str (PySem.Str.ofString "kind") 362] }),
  (99, { cls := PySem.Value.type "tuple", data := PySem.Data.seq #[] }),
  (101, { cls := PySem.Value.type "code", data := PySem.Data.fields #[PySem.Value.str (PySem.Str.ofString "need_kind") 359, PySem.Value.str (PySem.Str.ofString "need_kind") 360, PySem.Value.str (PySem.Str.ofString "/claim/cut.py") 361, PySem.Value.int 18 0, PySem.Value.int 1 0, PySem.Value.int 0 0, PySem.Value.int 0 0, PySem.Value.int 3 0, PySem.Value.ref 96, PySem.Value.bool true, PySem.Value.int 181 0, PySem.Value.ref 97, PySem.Value.none, PySem.Value.ref 98, PySem.Value.ref 99, PySem.Value.ref 100, PySem.Value.int 363 0, PySem.Value.int 18 0, PySem.Value.str (PySem.Str.ofString "/claim/cut.py") 364] }),
  (102, { cls := PySem.Value.type "function", data := PySem.Data.func { name := PySem.Str.ofString "need_kind", qualname := PySem.Str.ofString "need_kind", params := fP (sAt 8), body := PySem.FuncBody.stmts (fB (sAt 8)), scope := fS (sAt 8), globals := 3, closure := [], defaults := PySem.Value.none, kwdefaults := PySem.Value.none, pyModule := PySem.Value.str (PySem.Str.ofString "lifting.steps") 224, code := PySem.Value.ref 101 } }),
  (103, { cls := PySem.Value.type "tuple", data := PySem.Data.seq #[] }),
  (105, { cls := PySem.Value.type "tuple", data := PySem.Data.seq #[PySem.Value.str (PySem.Str.ofString "border") 369] }),
  (106, { cls := PySem.Value.type "tuple", data := PySem.Data.seq #[] }),
  (108, { cls := PySem.Value.type "code", data := PySem.Data.fields #[PySem.Value.str (PySem.Str.ofString "need_border") 366, PySem.Value.str (PySem.Str.ofString "need_border") 367, PySem.Value.str (PySem.Str.ofString "/claim/cut.py") 368, PySem.Value.int 22 0, PySem.Value.int 1 0, PySem.Value.int 0 0, PySem.Value.int 0 0, PySem.Value.int 3 0, PySem.Value.ref 103, PySem.Value.bool true, PySem.Value.int 181 0, PySem.Value.ref 104, PySem.Value.none, PySem.Value.ref 105, PySem.Value.ref 106, PySem.Value.ref 107, PySem.Value.int 370 0, PySem.Value.int 22 0, PySem.Value.str (PySem.Str.ofString "/claim/cut.py") 371] }),
  (109, { cls := PySem.Value.type "function", data := PySem.Data.func { name := PySem.Str.ofString "need_border", qualname := PySem.Str.ofString "need_border", params := fP (sAt 9), body := PySem.FuncBody.stmts (fB (sAt 9)), scope := fS (sAt 9), globals := 3, closure := [], defaults := PySem.Value.none, kwdefaults := PySem.Value.none, pyModule := PySem.Value.str (PySem.Str.ofString "lifting.steps") 224, code := PySem.Value.ref 108 } }),
  (110, { cls := PySem.Value.type "tuple", data := PySem.Data.seq #[] }),
  (112, { cls := PySem.Value.type "tuple", data := PySem.Data.seq #[PySem.Value.str (PySem.Str.ofString "k") 376, PySem.Value.str (PySem.Str.ofString "count") 377, PySem.Value.str (PySem.Str.ofString "border") 378] }),
  (113, { cls := PySem.Value.type "tuple", data := PySem.Data.seq #[] }),
  (115, { cls := PySem.Value.type "code", data := PySem.Data.fields #[PySem.Value.str (PySem.Str.ofString "place") 373, PySem.Value.str (PySem.Str.ofString "place") 374, PySem.Value.str (PySem.Str.ofString "/claim/cut.py") 375, PySem.Value.int 26 0, PySem.Value.int 3 0, PySem.Value.int 0 0, PySem.Value.int 0 0, PySem.Value.int 3 0, PySem.Value.ref 110, PySem.Value.bool true, PySem.Value.int 181 0, PySem.Value.ref 111, PySem.Value.none, PySem.Value.ref 112, PySem.Value.ref 113, PySem.Value.ref 114, PySem.Value.int 379 0, PySem.Value.int 26 0, PySem.Value.str (PySem.Str.ofString "/claim/cut.py") 380] }),
  (116, { cls := PySem.Value.type "function", data := PySem.Data.func { name := PySem.Str.ofString "place", qualname := PySem.Str.ofString "place", params := fP (sAt 10), body := PySem.FuncBody.stmts (fB (sAt 10)), scope := fS (sAt 10), globals := 3, closure := [], defaults := PySem.Value.none, kwdefaults := PySem.Value.none, pyModule := PySem.Value.str (PySem.Str.ofString "lifting.steps") 224, code := PySem.Value.ref 115 } }),
  (117, { cls := PySem.Value.type "tuple", data := PySem.Data.seq #[] }),
  (119, { cls := PySem.Value.type "tuple", data := PySem.Data.seq #[PySem.Value.str (PySem.Str.ofString "half") 385, PySem.Value.str (PySem.Str.ofString "other") 386, PySem.Value.str (PySem.Str.ofString "step") 387, PySem.Value.str (PySem.Str.ofString "border") 388, PySem.Value.str (PySem.Str.ofString "sign") 389, PySem.Value.str (PySem.Str.ofString "rows") 390, PySem.Value.str (PySem.Str.ofString "out") 391, PySem.Value.str (PySem.Str.ofString "i") 392, PySem.Value.str (PySem.Str.ofString "total") 393, PySem.Value.str (PySem.Str.ofString "offset") 394, PySem.Value.str (PySem.Str.ofString "weight") 395] }),
  (120, { cls := PySem.Value.type "tuple", data := PySem.Data.seq #[] }),
  (122, { cls := PySem.Value.type "code", data := PySem.Data.fields #[PySem.Value.str (PySem.Str.ofString "_turn") 382, PySem.Value.str (PySem.Str.ofString "_turn") 383, PySem.Value.str (PySem.Str.ofString "/claim/cut.py") 384, PySem.Value.int 35 0, PySem.Value.int 5 0, PySem.Value.int 0 0, PySem.Value.int 0 0, PySem.Value.int 3 0, PySem.Value.ref 117, PySem.Value.bool true, PySem.Value.int 181 0, PySem.Value.ref 118, PySem.Value.none, PySem.Value.ref 119, PySem.Value.ref 120, PySem.Value.ref 121, PySem.Value.int 396 0, PySem.Value.int 35 0, PySem.Value.str (PySem.Str.ofString "/claim/cut.py") 397] }),
  (123, { cls := PySem.Value.type "function", data := PySem.Data.func { name := PySem.Str.ofString "_turn", qualname := PySem.Str.ofString "_turn", params := fP (sAt 11), body := PySem.FuncBody.stmts (fB (sAt 11)), scope := fS (sAt 11), globals := 3, closure := [], defaults := PySem.Value.none, kwdefaults := PySem.Value.none, pyModule := PySem.Value.str (PySem.Str.ofString "lifting.steps") 224, code := PySem.Value.ref 122 } }),
  (124, { cls := PySem.Value.type "tuple", data := PySem.Data.seq #[] }),
  (126, { cls := PySem.Value.type "tuple", data := PySem.Data.seq #[PySem.Value.str (PySem.Str.ofString "row") 402, PySem.Value.str (PySem.Str.ofString "kind") 403, PySem.Value.str (PySem.Str.ofString "border") 404, PySem.Value.str (PySem.Str.ofString "even") 405, PySem.Value.str (PySem.Str.ofString "odd") 406, PySem.Value.str (PySem.Str.ofString "step") 407] }),
  (127, { cls := PySem.Value.type "tuple", data := PySem.Data.seq #[] }),
  (129, { cls := PySem.Value.type "code", data := PySem.Data.fields #[PySem.Value.str (PySem.Str.ofString "forward") 399, PySem.Value.str (PySem.Str.ofString "forward") 400, PySem.Value.str (PySem.Str.ofString "/claim/cut.py") 401, PySem.Value.int 46 0, PySem.Value.int 3 0, PySem.Value.int 0 0, PySem.Value.int 0 0, PySem.Value.int 3 0, PySem.Value.ref 124, PySem.Value.bool true, PySem.Value.int 181 0, PySem.Value.ref 125, PySem.Value.none, PySem.Value.ref 126, PySem.Value.ref 127, PySem.Value.ref 128, PySem.Value.int 408 0, PySem.Value.int 46 0, PySem.Value.str (PySem.Str.ofString "/claim/cut.py") 409] }),
  (130, { cls := PySem.Value.type "function", data := PySem.Data.func { name := PySem.Str.ofString "forward", qualname := PySem.Str.ofString "forward", params := fP (sAt 12), body := PySem.FuncBody.stmts (fB (sAt 12)), scope := fS (sAt 12), globals := 3, closure := [], defaults := PySem.Value.none, kwdefaults := PySem.Value.none, pyModule := PySem.Value.str (PySem.Str.ofString "lifting.steps") 224, code := PySem.Value.ref 129 } }),
  (131, { cls := PySem.Value.type "tuple", data := PySem.Data.seq #[] }),
  (134, { cls := PySem.Value.type "code", data := PySem.Data.fields #[PySem.Value.str (PySem.Str.ofString "turned") 416, PySem.Value.str (PySem.Str.ofString "turned") 417, PySem.Value.str (PySem.Str.ofString "/claim/cut.py") 418, PySem.Value.int 60 0, PySem.Value.int 1 0, PySem.Value.int 0 0, PySem.Value.int 0 0, PySem.Value.int 3 0, PySem.Value.ref 131, PySem.Value.bool true, PySem.Value.int 181 0, PySem.Value.ref 132, PySem.Value.none, PySem.Value.none, PySem.Value.none, PySem.Value.ref 133, PySem.Value.int 419 0, PySem.Value.int 60 0, PySem.Value.str (PySem.Str.ofString "/claim/cut.py") 420] }),
  (135, { cls := PySem.Value.type "function", data := PySem.Data.func { name := PySem.Str.ofString "turned", qualname := PySem.Str.ofString "turned", params := fP (sAt 16), body := PySem.FuncBody.stmts (fB (sAt 16)), scope := fS (sAt 16), globals := 3, closure := [], defaults := PySem.Value.none, kwdefaults := PySem.Value.none, pyModule := PySem.Value.str (PySem.Str.ofString "lifting.waves") 412, code := PySem.Value.ref 134 } }),
  (136, { cls := PySem.Value.type "tuple", data := PySem.Data.seq #[] }),
  (139, { cls := PySem.Value.type "code", data := PySem.Data.fields #[PySem.Value.str (PySem.Str.ofString "part_rows") 422, PySem.Value.str (PySem.Str.ofString "part_rows") 423, PySem.Value.str (PySem.Str.ofString "/claim/cut.py") 424, PySem.Value.int 64 0, PySem.Value.int 3 0, PySem.Value.int 0 0, PySem.Value.int 0 0, PySem.Value.int 3 0, PySem.Value.ref 136, PySem.Value.bool true, PySem.Value.int 181 0, PySem.Value.ref 137, PySem.Value.none, PySem.Value.none, PySem.Value.none, PySem.Value.ref 138, PySem.Value.int 425 0, PySem.Value.int 64 0, PySem.Value.str (PySem.Str.ofString "/claim/cut.py") 426] }),
  (140, { cls := PySem.Value.type "function", data := PySem.Data.func { name := PySem.Str.ofString "part_rows", qualname := PySem.Str.ofString "part_rows", params := fP (sAt 17), body := PySem.FuncBody.stmts (fB (sAt 17)), scope := fS (sAt 17), globals := 3, closure := [], defaults := PySem.Value.none, kwdefaults := PySem.Value.none, pyModule := PySem.Value.str (PySem.Str.ofString "lifting.waves") 412, code := PySem.Value.ref 139 } }),
  (141, { cls := PySem.Value.type "tuple", data := PySem.Data.seq #[] }),
  (144, { cls := PySem.Value.type "code", data := PySem.Data.fields #[PySem.Value.str (PySem.Str.ofString "part_columns") 428, PySem.Value.str (PySem.Str.ofString "part_columns") 429, PySem.Value.str (PySem.Str.ofString "/claim/cut.py") 430, PySem.Value.int 67 0, PySem.Value.int 3 0, PySem.Value.int 0 0, PySem.Value.int 0 0, PySem.Value.int 3 0, PySem.Value.ref 141, PySem.Value.bool true, PySem.Value.int 181 0, PySem.Value.ref 142, PySem.Value.none, PySem.Value.none, PySem.Value.none, PySem.Value.ref 143, PySem.Value.int 431 0, PySem.Value.int 67 0, PySem.Value.str (PySem.Str.ofString "/claim/cut.py") 432] }),
  (145, { cls := PySem.Value.type "function", data := PySem.Data.func { name := PySem.Str.ofString "part_columns", qualname := PySem.Str.ofString "part_columns", params := fP (sAt 18), body := PySem.FuncBody.stmts (fB (sAt 18)), scope := fS (sAt 18), globals := 3, closure := [], defaults := PySem.Value.none, kwdefaults := PySem.Value.none, pyModule := PySem.Value.str (PySem.Str.ofString "lifting.waves") 412, code := PySem.Value.ref 144 } }),
  (146, { cls := PySem.Value.type "tuple", data := PySem.Data.seq #[] }),
  (149, { cls := PySem.Value.type "code", data := PySem.Data.fields #[PySem.Value.str (PySem.Str.ofString "forward") 434, PySem.Value.str (PySem.Str.ofString "forward") 435, PySem.Value.str (PySem.Str.ofString "/claim/cut.py") 436, PySem.Value.int 75 0, PySem.Value.int 4 0, PySem.Value.int 0 0, PySem.Value.int 0 0, PySem.Value.int 3 0, PySem.Value.ref 146, PySem.Value.bool true, PySem.Value.int 181 0, PySem.Value.ref 147, PySem.Value.none, PySem.Value.none, PySem.Value.none, PySem.Value.ref 148, PySem.Value.int 437 0, PySem.Value.int 75 0, PySem.Value.str (PySem.Str.ofString "/claim/cut.py") 438] }),
  (150, { cls := PySem.Value.type "function", data := PySem.Data.func { name := PySem.Str.ofString "forward", qualname := PySem.Str.ofString "forward", params := fP (sAt 19), body := PySem.FuncBody.stmts (fB (sAt 19)), scope := fS (sAt 19), globals := 3, closure := [], defaults := PySem.Value.none, kwdefaults := PySem.Value.none, pyModule := PySem.Value.str (PySem.Str.ofString "lifting.waves") 412, code := PySem.Value.ref 149 } }),
  (151, { cls := PySem.Value.type "tuple", data := PySem.Data.seq #[] }),
  (153, { cls := PySem.Value.type "tuple", data := PySem.Data.seq #[PySem.Value.str (PySem.Str.ofString "width") 444, PySem.Value.str (PySem.Str.ofString "height") 445, PySem.Value.str (PySem.Str.ofString "levels") 446, PySem.Value.str (PySem.Str.ofString "bands") 447, PySem.Value.str (PySem.Str.ofString "level") 448, PySem.Value.str (PySem.Str.ofString "wide") 449, PySem.Value.str (PySem.Str.ofString "high") 450] }),
  (154, { cls := PySem.Value.type "tuple", data := PySem.Data.seq #[] }),
  (156, { cls := PySem.Value.type "code", data := PySem.Data.fields #[PySem.Value.str (PySem.Str.ofString "shapes") 441, PySem.Value.str (PySem.Str.ofString "shapes") 442, PySem.Value.str (PySem.Str.ofString "/claim/cut.py") 443, PySem.Value.int 86 0, PySem.Value.int 3 0, PySem.Value.int 0 0, PySem.Value.int 0 0, PySem.Value.int 3 0, PySem.Value.ref 151, PySem.Value.bool true, PySem.Value.int 181 0, PySem.Value.ref 152, PySem.Value.none, PySem.Value.ref 153, PySem.Value.ref 154, PySem.Value.ref 155, PySem.Value.int 451 0, PySem.Value.int 86 0, PySem.Value.str (PySem.Str.ofString "/claim/cut.py") 452] }),
  (157, { cls := PySem.Value.type "function", data := PySem.Data.func { name := PySem.Str.ofString "shapes", qualname := PySem.Str.ofString "shapes", params := fP (sAt 21), body := PySem.FuncBody.stmts (fB (sAt 21)), scope := fS (sAt 21), globals := 3, closure := [], defaults := PySem.Value.none, kwdefaults := PySem.Value.none, pyModule := PySem.Value.str (PySem.Str.ofString "lifting.waves") 412, code := PySem.Value.ref 156 } }),
  (165, { cls := PySem.Value.type "tuple", data := PySem.Data.seq #[] }),
  (168, { cls := PySem.Value.type "code", data := PySem.Data.fields #[PySem.Value.str (PySem.Str.ofString "__init__") 468, PySem.Value.str (PySem.Str.ofString "Trees.__init__") 469, PySem.Value.str (PySem.Str.ofString "/claim/cut.py") 470, PySem.Value.int 98 0, PySem.Value.int 4 0, PySem.Value.int 0 0, PySem.Value.int 0 0, PySem.Value.int 3 0, PySem.Value.ref 165, PySem.Value.bool true, PySem.Value.int 181 0, PySem.Value.ref 166, PySem.Value.none, PySem.Value.none, PySem.Value.none, PySem.Value.ref 167, PySem.Value.int 471 0, PySem.Value.int 98 0, PySem.Value.str (PySem.Str.ofString "/claim/cut.py") 472] }),
  (169, { cls := PySem.Value.type "function", data := PySem.Data.func { name := PySem.Str.ofString "__init__", qualname := PySem.Str.ofString "Trees.__init__", params := fP (sIn 23 0), body := PySem.FuncBody.stmts (fB (sIn 23 0)), scope := fS (sIn 23 0), globals := 3, closure := [], defaults := PySem.Value.none, kwdefaults := PySem.Value.none, pyModule := PySem.Value.str (PySem.Str.ofString "lifting.trees") 454, code := PySem.Value.ref 168 } }),
  (170, { cls := PySem.Value.type "tuple", data := PySem.Data.seq #[] }),
  (172, { cls := PySem.Value.type "tuple", data := PySem.Data.seq #[PySem.Value.str (PySem.Str.ofString "self") 477, PySem.Value.str (PySem.Str.ofString "key") 478, PySem.Value.str (PySem.Str.ofString "shape") 479, PySem.Value.str (PySem.Str.ofString "depth") 480, PySem.Value.str (PySem.Str.ofString "above") 481, PySem.Value.str (PySem.Str.ofString "form") 482, PySem.Value.str (PySem.Str.ofString "first") 483, PySem.Value.str (PySem.Str.ofString "width") 484, PySem.Value.str (PySem.Str.ofString "height") 485, PySem.Value.str (PySem.Str.ofString "row") 486, PySem.Value.str (PySem.Str.ofString "column") 487, PySem.Value.str (PySem.Str.ofString "above_shape") 488, PySem.Value.str (PySem.Str.ofString "halve") 489, PySem.Value.str (PySem.Str.ofString "by") 490, PySem.Value.str (PySem.Str.ofString "up") 491, PySem.Value.str (PySem.Str.ofString "left") 492] }),
  (173, { cls := PySem.Value.type "tuple", data := PySem.Data.seq #[] }),
  (175, { cls := PySem.Value.type "code", data := PySem.Data.fields #[PySem.Value.str (PySem.Str.ofString "_add") 474, PySem.Value.str (PySem.Str.ofString "Trees._add") 475, PySem.Value.str (PySem.Str.ofString "/claim/cut.py") 476, PySem.Value.int 121 0, PySem.Value.int 7 0, PySem.Value.int 0 0, PySem.Value.int 0 0, PySem.Value.int 3 0, PySem.Value.ref 170, PySem.Value.bool true, PySem.Value.int 181 0, PySem.Value.ref 171, PySem.Value.none, PySem.Value.ref 172, PySem.Value.ref 173, PySem.Value.ref 174, PySem.Value.int 493 0, PySem.Value.int 121 0, PySem.Value.str (PySem.Str.ofString "/claim/cut.py") 494] }),
  (176, { cls := PySem.Value.type "function", data := PySem.Data.func { name := PySem.Str.ofString "_add", qualname := PySem.Str.ofString "Trees._add", params := fP (sIn 23 1), body := PySem.FuncBody.stmts (fB (sIn 23 1)), scope := fS (sIn 23 1), globals := 3, closure := [], defaults := PySem.Value.none, kwdefaults := PySem.Value.none, pyModule := PySem.Value.str (PySem.Str.ofString "lifting.trees") 454, code := PySem.Value.ref 175 } }),
  (177, { cls := PySem.Value.type "tuple", data := PySem.Data.seq #[] }),
  (179, { cls := PySem.Value.type "tuple", data := PySem.Data.seq #[PySem.Value.str (PySem.Str.ofString "self") 499] }),
  (180, { cls := PySem.Value.type "tuple", data := PySem.Data.seq #[] }),
  (182, { cls := PySem.Value.type "code", data := PySem.Data.fields #[PySem.Value.str (PySem.Str.ofString "size") 496, PySem.Value.str (PySem.Str.ofString "Trees.size") 497, PySem.Value.str (PySem.Str.ofString "/claim/cut.py") 498, PySem.Value.int 136 0, PySem.Value.int 1 0, PySem.Value.int 0 0, PySem.Value.int 0 0, PySem.Value.int 3 0, PySem.Value.ref 177, PySem.Value.bool true, PySem.Value.int 181 0, PySem.Value.ref 178, PySem.Value.none, PySem.Value.ref 179, PySem.Value.ref 180, PySem.Value.ref 181, PySem.Value.int 500 0, PySem.Value.int 136 0, PySem.Value.str (PySem.Str.ofString "/claim/cut.py") 501] }),
  (183, { cls := PySem.Value.type "function", data := PySem.Data.func { name := PySem.Str.ofString "size", qualname := PySem.Str.ofString "Trees.size", params := fP (sIn 23 2), body := PySem.FuncBody.stmts (fB (sIn 23 2)), scope := fS (sIn 23 2), globals := 3, closure := [], defaults := PySem.Value.none, kwdefaults := PySem.Value.none, pyModule := PySem.Value.str (PySem.Str.ofString "lifting.trees") 454, code := PySem.Value.ref 182 } }),
  (184, { cls := PySem.Value.type "tuple", data := PySem.Data.seq #[] }),
  (186, { cls := PySem.Value.type "tuple", data := PySem.Data.seq #[PySem.Value.str (PySem.Str.ofString "self") 506, PySem.Value.str (PySem.Str.ofString "parts") 507, PySem.Value.str (PySem.Str.ofString "out") 508, PySem.Value.str (PySem.Str.ofString "row") 509, PySem.Value.str (PySem.Str.ofString "band") 510, PySem.Value.str (PySem.Str.ofString "rows") 511] }),
  (187, { cls := PySem.Value.type "tuple", data := PySem.Data.seq #[] }),
  (189, { cls := PySem.Value.type "code", data := PySem.Data.fields #[PySem.Value.str (PySem.Str.ofString "flat") 503, PySem.Value.str (PySem.Str.ofString "Trees.flat") 504, PySem.Value.str (PySem.Str.ofString "/claim/cut.py") 505, PySem.Value.int 139 0, PySem.Value.int 2 0, PySem.Value.int 0 0, PySem.Value.int 0 0, PySem.Value.int 3 0, PySem.Value.ref 184, PySem.Value.bool true, PySem.Value.int 181 0, PySem.Value.ref 185, PySem.Value.none, PySem.Value.ref 186, PySem.Value.ref 187, PySem.Value.ref 188, PySem.Value.int 512 0, PySem.Value.int 139 0, PySem.Value.str (PySem.Str.ofString "/claim/cut.py") 513] }),
  (190, { cls := PySem.Value.type "function", data := PySem.Data.func { name := PySem.Str.ofString "flat", qualname := PySem.Str.ofString "Trees.flat", params := fP (sIn 23 3), body := PySem.FuncBody.stmts (fB (sIn 23 3)), scope := fS (sIn 23 3), globals := 3, closure := [], defaults := PySem.Value.none, kwdefaults := PySem.Value.none, pyModule := PySem.Value.str (PySem.Str.ofString "lifting.trees") 454, code := PySem.Value.ref 189 } }),
  (191, { cls := PySem.Value.type "tuple", data := PySem.Data.seq #[] }),
  (193, { cls := PySem.Value.type "tuple", data := PySem.Data.seq #[PySem.Value.str (PySem.Str.ofString "self") 518, PySem.Value.str (PySem.Str.ofString "values") 519, PySem.Value.str (PySem.Str.ofString "low") 520, PySem.Value.str (PySem.Str.ofString "bands") 521, PySem.Value.str (PySem.Str.ofString "rows") 522, PySem.Value.str (PySem.Str.ofString "at") 523, PySem.Value.str (PySem.Str.ofString "out") 524, PySem.Value.str (PySem.Str.ofString "level") 525, PySem.Value.str (PySem.Str.ofString "band") 526, PySem.Value.str (PySem.Str.ofString "kind") 527, PySem.Value.str (PySem.Str.ofString "some") 528] }),
  (194, { cls := PySem.Value.type "tuple", data := PySem.Data.seq #[] }),
  (196, { cls := PySem.Value.type "code", data := PySem.Data.fields #[PySem.Value.str (PySem.Str.ofString "parts") 515, PySem.Value.str (PySem.Str.ofString "Trees.parts") 516, PySem.Value.str (PySem.Str.ofString "/claim/cut.py") 517, PySem.Value.int 149 0, PySem.Value.int 2 0, PySem.Value.int 0 0, PySem.Value.int 0 0, PySem.Value.int 3 0, PySem.Value.ref 191, PySem.Value.bool true, PySem.Value.int 181 0, PySem.Value.ref 192, PySem.Value.none, PySem.Value.ref 193, PySem.Value.ref 194, PySem.Value.ref 195, PySem.Value.int 529 0, PySem.Value.int 149 0, PySem.Value.str (PySem.Str.ofString "/claim/cut.py") 530] }),
  (197, { cls := PySem.Value.type "function", data := PySem.Data.func { name := PySem.Str.ofString "parts", qualname := PySem.Str.ofString "Trees.parts", params := fP (sIn 23 4), body := PySem.FuncBody.stmts (fB (sIn 23 4)), scope := fS (sIn 23 4), globals := 3, closure := [], defaults := PySem.Value.none, kwdefaults := PySem.Value.none, pyModule := PySem.Value.str (PySem.Str.ofString "lifting.trees") 454, code := PySem.Value.ref 196 } }),
  (198, { cls := PySem.Value.type "tuple", data := PySem.Data.seq #[] }),
  (200, { cls := PySem.Value.type "tuple", data := PySem.Data.seq #[PySem.Value.str (PySem.Str.ofString "self") 535, PySem.Value.str (PySem.Str.ofString "values") 536, PySem.Value.str (PySem.Str.ofString "out") 537, PySem.Value.str (PySem.Str.ofString "k") 538, PySem.Value.str (PySem.Str.ofString "up") 539] }),
  (201, { cls := PySem.Value.type "tuple", data := PySem.Data.seq #[] }),
  (203, { cls := PySem.Value.type "code", data := PySem.Data.fields #[PySem.Value.str (PySem.Str.ofString "greatest_under") 532, PySem.Value.str (PySem.Str.ofString "Trees.greatest_under") 533, PySem.Value.str (PySem.Str.ofString "/claim/cut.py") 534, PySem.Value.int 162 0, PySem.Value.int 2 0, PySem.Value.int 0 0, PySem.Value.int 0 0, PySem.Value.int 3 0, PySem.Value.ref 198, PySem.Value.bool true, PySem.Value.int 181 0, PySem.Value.ref 199, PySem.Value.none, PySem.Value.ref 200, PySem.Value.ref 201, PySem.Value.ref 202, PySem.Value.int 540 0, PySem.Value.int 162 0, PySem.Value.str (PySem.Str.ofString "/claim/cut.py") 541] }),
  (204, { cls := PySem.Value.type "function", data := PySem.Data.func { name := PySem.Str.ofString "greatest_under", qualname := PySem.Str.ofString "Trees.greatest_under", params := fP (sIn 23 5), body := PySem.FuncBody.stmts (fB (sIn 23 5)), scope := fS (sIn 23 5), globals := 3, closure := [], defaults := PySem.Value.none, kwdefaults := PySem.Value.none, pyModule := PySem.Value.str (PySem.Str.ofString "lifting.trees") 454, code := PySem.Value.ref 203 } }),
  (205, { cls := PySem.Value.type "tuple", data := PySem.Data.seq #[PySem.Value.str (PySem.Str.ofString "children") 543, PySem.Value.str (PySem.Str.ofString "depths") 544, PySem.Value.str (PySem.Str.ofString "parents") 545, PySem.Value.str (PySem.Str.ofString "shape") 546] }),
  (206, { cls := PySem.Value.type "dict", data := PySem.Data.dict #[{ hash := PySem.PyData.keyHash P (PySem.Str.ofString "__module__"), key := PySem.Value.str (PySem.Str.ofString "__module__") 463, val := PySem.Value.str (PySem.Str.ofString "lifting.trees") 454 }, { hash := PySem.PyData.keyHash P (PySem.Str.ofString "__firstlineno__"), key := PySem.Value.str (PySem.Str.ofString "__firstlineno__") 467, val := PySem.Value.int 96 466 }, { hash := PySem.PyData.keyHash P (PySem.Str.ofString "__init__"), key := PySem.Value.str (PySem.Str.ofString "__init__") 473, val := PySem.Value.ref 169 }, { hash := PySem.PyData.keyHash P (PySem.Str.ofString "_add"), key := PySem.Value.str (PySem.Str.ofString "_add") 495, val := PySem.Value.ref 176 }, { hash := PySem.PyData.keyHash P (PySem.Str.ofString "size"), key := PySem.Value.str (PySem.Str.ofString "size") 502, val := PySem.Value.ref 183 }, { hash := PySem.PyData.keyHash P (PySem.Str.ofString "flat"), key := PySem.Value.str (PySem.Str.ofString "flat") 514, val := PySem.Value.ref 190 }, { hash := PySem.PyData.keyHash P (PySem.Str.ofString "parts"), key := PySem.Value.str (PySem.Str.ofString "parts") 531, val := PySem.Value.ref 197 }, { hash := PySem.PyData.keyHash P (PySem.Str.ofString "greatest_under"), key := PySem.Value.str (PySem.Str.ofString "greatest_under") 542, val := PySem.Value.ref 204 }, { hash := PySem.PyData.keyHash P (PySem.Str.ofString "__static_attributes__"), key := PySem.Value.str (PySem.Str.ofString "__static_attributes__") 547, val := PySem.Value.ref 205 }, { hash := PySem.PyData.keyHash P (PySem.Str.ofString "__dict__"), key := PySem.Value.str (PySem.Str.ofString "__dict__") 549, val := PySem.Value.ref 208 }, { hash := PySem.PyData.keyHash P (PySem.Str.ofString "__weakref__"), key := PySem.Value.str (PySem.Str.ofString "__weakref__") 551, val := PySem.Value.ref 209 }, { hash := PySem.PyData.keyHash P (PySem.Str.ofString "__doc__"), key := PySem.Value.str (PySem.Str.ofString "__doc__") 552, val := PySem.Value.none }] 4 }),
  (207, { cls := PySem.Value.type "type", data := PySem.Data.cls { name := PySem.Str.ofString "Trees", bases := [PySem.Value.type "object"], mro := [PySem.Value.ref 207, PySem.Value.type "object"], ns := 206, qualname := PySem.Str.ofString "Trees" }, slots := #[none, none, some (PySem.Value.str (PySem.Str.ofString "Trees") 456), some (PySem.Value.str (PySem.Str.ofString "Trees") 464), some (PySem.Value.builtin "object.__new__"), some (PySem.Value.bool true)] }),
  (208, { cls := PySem.Value.type "getset_descriptor", data := PySem.Data.fields #[PySem.Value.str (PySem.Str.ofString "__dict__") 548, PySem.Value.ref 207, PySem.Value.builtin "function.__dict__", PySem.Value.builtin "function.__dict__#set"] }),
  (209, { cls := PySem.Value.type "getset_descriptor", data := PySem.Data.fields #[PySem.Value.str (PySem.Str.ofString "__weakref__") 550, PySem.Value.ref 207, PySem.Value.builtin "ExceptionGroup.__weakref__", PySem.Value.none] }),
  (212, { cls := PySem.Value.type "tuple", data := PySem.Data.seq #[] }),
  (214, { cls := PySem.Value.type "tuple", data := PySem.Data.seq #[PySem.Value.str (PySem.Str.ofString "values") 558, PySem.Value.str (PySem.Str.ofString "at") 559, PySem.Value.str (PySem.Str.ofString "shape") 560, PySem.Value.str (PySem.Str.ofString "width") 561, PySem.Value.str (PySem.Str.ofString "height") 562, PySem.Value.str (PySem.Str.ofString "rows") 563, PySem.Value.str (PySem.Str.ofString "row") 564] }),
  (215, { cls := PySem.Value.type "tuple", data := PySem.Data.seq #[] }),
  (217, { cls := PySem.Value.type "code", data := PySem.Data.fields #[PySem.Value.str (PySem.Str.ofString "_rows") 555, PySem.Value.str (PySem.Str.ofString "_rows") 556, PySem.Value.str (PySem.Str.ofString "/claim/cut.py") 557, PySem.Value.int 169 0, PySem.Value.int 3 0, PySem.Value.int 0 0, PySem.Value.int 0 0, PySem.Value.int 3 0, PySem.Value.ref 212, PySem.Value.bool true, PySem.Value.int 181 0, PySem.Value.ref 213, PySem.Value.none, PySem.Value.ref 214, PySem.Value.ref 215, PySem.Value.ref 216, PySem.Value.int 565 0, PySem.Value.int 169 0, PySem.Value.str (PySem.Str.ofString "/claim/cut.py") 566] }),
  (218, { cls := PySem.Value.type "function", data := PySem.Data.func { name := PySem.Str.ofString "_rows", qualname := PySem.Str.ofString "_rows", params := fP (sAt 24), body := PySem.FuncBody.stmts (fB (sAt 24)), scope := fS (sAt 24), globals := 3, closure := [], defaults := PySem.Value.none, kwdefaults := PySem.Value.none, pyModule := PySem.Value.str (PySem.Str.ofString "lifting.trees") 454, code := PySem.Value.ref 217 } }),
  (219, { cls := PySem.Value.type "tuple", data := PySem.Data.seq #[] }),
  (221, { cls := PySem.Value.type "tuple", data := PySem.Data.seq #[PySem.Value.str (PySem.Str.ofString "children") 573, PySem.Value.str (PySem.Str.ofString "values") 574, PySem.Value.str (PySem.Str.ofString "k") 575, PySem.Value.str (PySem.Str.ofString "out") 576, PySem.Value.str (PySem.Str.ofString "child") 577] }),
  (222, { cls := PySem.Value.type "tuple", data := PySem.Data.seq #[] }),
  (224, { cls := PySem.Value.type "code", data := PySem.Data.fields #[PySem.Value.str (PySem.Str.ofString "plain_greatest") 570, PySem.Value.str (PySem.Str.ofString "plain_greatest") 571, PySem.Value.str (PySem.Str.ofString "/claim/cut.py") 572, PySem.Value.int 177 0, PySem.Value.int 3 0, PySem.Value.int 0 0, PySem.Value.int 0 0, PySem.Value.int 3 0, PySem.Value.ref 219, PySem.Value.bool true, PySem.Value.int 181 0, PySem.Value.ref 220, PySem.Value.none, PySem.Value.ref 221, PySem.Value.ref 222, PySem.Value.ref 223, PySem.Value.int 578 0, PySem.Value.int 177 0, PySem.Value.str (PySem.Str.ofString "/claim/cut.py") 579] }),
  (225, { cls := PySem.Value.type "function", data := PySem.Data.func { name := PySem.Str.ofString "plain_greatest", qualname := PySem.Str.ofString "plain_greatest", params := fP (sAt 26), body := PySem.FuncBody.stmts (fB (sAt 26)), scope := fS (sAt 26), globals := 3, closure := [], defaults := PySem.Value.none, kwdefaults := PySem.Value.none, pyModule := PySem.Value.str (PySem.Str.ofString "lifting.plain") 568, code := PySem.Value.ref 224 } }),
  (226, { cls := PySem.Value.type "tuple", data := PySem.Data.seq #[] }),
  (228, { cls := PySem.Value.type "tuple", data := PySem.Data.seq #[PySem.Value.str (PySem.Str.ofString "script") 586, PySem.Value.str (PySem.Str.ofString "k") 587] }),
  (229, { cls := PySem.Value.type "tuple", data := PySem.Data.seq #[] }),
  (231, { cls := PySem.Value.type "code", data := PySem.Data.fields #[PySem.Value.str (PySem.Str.ofString "_law_cell") 583, PySem.Value.str (PySem.Str.ofString "_law_cell") 584, PySem.Value.str (PySem.Str.ofString "/claim/cut.py") 585, PySem.Value.int 183 0, PySem.Value.int 2 0, PySem.Value.int 0 0, PySem.Value.int 0 0, PySem.Value.int 3 0, PySem.Value.ref 226, PySem.Value.bool true, PySem.Value.int 181 0, PySem.Value.ref 227, PySem.Value.none, PySem.Value.ref 228, PySem.Value.ref 229, PySem.Value.ref 230, PySem.Value.int 588 0, PySem.Value.int 183 0, PySem.Value.str (PySem.Str.ofString "/claim/cut.py") 589] }),
  (232, { cls := PySem.Value.type "function", data := PySem.Data.func { name := PySem.Str.ofString "_law_cell", qualname := PySem.Str.ofString "_law_cell", params := fP (sAt 28), body := PySem.FuncBody.stmts (fB (sAt 28)), scope := fS (sAt 28), globals := 3, closure := [], defaults := PySem.Value.none, kwdefaults := PySem.Value.none, pyModule := PySem.Value.str (PySem.Str.ofString "law_ui0502_14") 581, code := PySem.Value.ref 231 } }),
  (233, { cls := PySem.Value.type "tuple", data := PySem.Data.seq #[] }),
  (236, { cls := PySem.Value.type "code", data := PySem.Data.fields #[PySem.Value.str (PySem.Str.ofString "_law_image") 591, PySem.Value.str (PySem.Str.ofString "_law_image") 592, PySem.Value.str (PySem.Str.ofString "/claim/cut.py") 593, PySem.Value.int 187 0, PySem.Value.int 4 0, PySem.Value.int 0 0, PySem.Value.int 0 0, PySem.Value.int 3 0, PySem.Value.ref 233, PySem.Value.bool true, PySem.Value.int 181 0, PySem.Value.ref 234, PySem.Value.none, PySem.Value.none, PySem.Value.none, PySem.Value.ref 235, PySem.Value.int 594 0, PySem.Value.int 187 0, PySem.Value.str (PySem.Str.ofString "/claim/cut.py") 595] }),
  (237, { cls := PySem.Value.type "function", data := PySem.Data.func { name := PySem.Str.ofString "_law_image", qualname := PySem.Str.ofString "_law_image", params := fP (sAt 29), body := PySem.FuncBody.stmts (fB (sAt 29)), scope := fS (sAt 29), globals := 3, closure := [], defaults := PySem.Value.none, kwdefaults := PySem.Value.none, pyModule := PySem.Value.str (PySem.Str.ofString "law_ui0502_14") 581, code := PySem.Value.ref 236 } }),
  (238, { cls := PySem.Value.type "tuple", data := PySem.Data.seq #[] }),
  (241, { cls := PySem.Value.type "code", data := PySem.Data.fields #[PySem.Value.str (PySem.Str.ofString "law") 597, PySem.Value.str (PySem.Str.ofString "law") 598, PySem.Value.str (PySem.Str.ofString "/claim/cut.py") 599, PySem.Value.int 200 0, PySem.Value.int 1 0, PySem.Value.int 0 0, PySem.Value.int 0 0, PySem.Value.int 3 0, PySem.Value.ref 238, PySem.Value.bool true, PySem.Value.int 181 0, PySem.Value.ref 239, PySem.Value.none, PySem.Value.none, PySem.Value.none, PySem.Value.ref 240, PySem.Value.int 600 0, PySem.Value.int 200 0, PySem.Value.str (PySem.Str.ofString "/claim/cut.py") 601] }),
  (242, { cls := PySem.Value.type "function", data := PySem.Data.func { name := PySem.Str.ofString "law", qualname := PySem.Str.ofString "law", params := fP (sAt 30), body := PySem.FuncBody.stmts (fB (sAt 30)), scope := fS (sAt 30), globals := 3, closure := [], defaults := PySem.Value.none, kwdefaults := PySem.Value.none, pyModule := PySem.Value.str (PySem.Str.ofString "law_ui0502_14") 581, code := PySem.Value.ref 241 } })]
noncomputable def hd.view : Program := { PySem.Challenge.pw_ui0502_14 with main := { PySem.Challenge.pw_ui0502_14.main with body := [1, 2, 3, 5, 6, 7, 8, 9, 10, 11, 13, 15, 16, 17, 18, 19, 20, 21, 23, 24, 26, 28, 29, 30].filterMap (PySem.Challenge.pw_ui0502_14.main.body[·]?) } }
noncomputable def hd.as : List Addr := [2, 3, 15, 22, 23, 24, 25, 28, 30, 31, 33, 34, 35, 37, 38, 40, 41, 42, 43, 44, 45, 46, 47, 48, 49, 50, 51, 52, 53, 54, 55, 56, 57, 58, 59, 60, 61, 62, 63, 64, 65, 66, 67, 68, 69, 70, 71, 72, 73, 74, 75, 76, 77, 78, 79, 80, 81, 82, 83, 84, 85, 86, 87, 88, 89, 90, 91, 92, 93, 94, 95, 96, 98, 99, 101, 102, 103, 105, 106, 108, 109, 110, 112, 113, 115, 116, 117, 119, 120, 122, 123, 124, 126, 127, 129, 130, 131, 134, 135, 136, 139, 140, 141, 144, 145, 146, 149, 150, 151, 153, 154, 156, 157, 165, 168, 169, 170, 172, 173, 175, 176, 177, 179, 180, 182, 183, 184, 186, 187, 189, 190, 191, 193, 194, 196, 197, 198, 200, 201, 203, 204, 205, 206, 207, 208, 209, 212, 214, 215, 217, 218, 219, 221, 222, 224, 225, 226, 228, 229, 231, 232, 233, 236, 237, 238, 241, 242]
noncomputable def hd.hook : Hook := kHook hd.heap_39 hd.as (fun _ => by kernel_rfl)
theorem hd.left0 (w : World) : (fencedOpening treeTable PySem.Challenge.rw_ui0502_14.row.prog w 3312).map (fun s₀ => (topFrom treeTable PySem.Challenge.rw_ui0502_14.row.prog (w.withFollow "special-get-raises" false) 3312 s₀).map (fun s => (openSeen hd.view [Str.ofString "STEPS", Str.ofString "KINDS", Str.ofString "BORDERS", Str.ofString "forward_steps", Str.ofString "forward_waves"] (importedModules PySem.Challenge.rw_ui0502_14.row.prog.main.body) (fun s => xlAt hd.view [] s && recOk (RowW.records PySem.Challenge.rw_ui0502_14.row.toRowW) s) true s, Hook.obs hd.hook s))) = some (some (openGood hd.view [Str.ofString "STEPS", Str.ofString "KINDS", Str.ofString "BORDERS", Str.ofString "forward_steps", Str.ofString "forward_waves"], Hook.val hd.hook (w.withFollow "special-get-raises" false))) := by kernel_rfl
theorem hd.left1 (w : World) : (fencedOpening treeTable PySem.Challenge.rw_ui0502_14.row.prog w 3312).map (fun s₀ => (topFrom treeTable PySem.Challenge.rw_ui0502_14.row.prog (w.withFollow "special-get-raises" true) 3312 s₀).map (fun s => (openSeen hd.view [Str.ofString "STEPS", Str.ofString "KINDS", Str.ofString "BORDERS", Str.ofString "forward_steps", Str.ofString "forward_waves"] (importedModules PySem.Challenge.rw_ui0502_14.row.prog.main.body) (fun s => xlAt hd.view [] s && recOk (RowW.records PySem.Challenge.rw_ui0502_14.row.toRowW) s) true s, Hook.obs hd.hook s))) = some (some (openGood hd.view [Str.ofString "STEPS", Str.ofString "KINDS", Str.ofString "BORDERS", Str.ofString "forward_steps", Str.ofString "forward_waves"], Hook.val hd.hook (w.withFollow "special-get-raises" true))) := by kernel_rfl
theorem hd.left : LeftO PySem.Challenge.rw_ui0502_14.row.prog hd.view [Str.ofString "STEPS", Str.ofString "KINDS", Str.ofString "BORDERS", Str.ofString "forward_steps", Str.ofString "forward_waves"] (fun s => xlAt hd.view [] s && recOk (RowW.records PySem.Challenge.rw_ui0502_14.row.toRowW) s) (Hook.obs hd.hook) (Hook.val hd.hook) 3312 := LeftO.of_split "special-get-raises" (fun w => by
  obtain ⟨s0, a, b⟩ := Option.map_eq_some_iff.mp (hd.left0 w)
  obtain ⟨s1, a', b'⟩ := Option.map_eq_some_iff.mp (hd.left1 w)
  rw [a] at a'
  cases a'
  rw [a]
  show some (_, _) = some (_, _)
  rw [b, b'])
theorem hd.said : PySem.Challenge.rw_ui0502_14.wellSaid = true := by kernel_rfl
noncomputable def hd.rec : DefRec := ⟨Str.ofString "law", fP (sAt 30), fB (sAt 30), fS (sAt 30), (sAt 30).pos⟩
theorem hd.all (h : WalkO hd.view [Str.ofString "STEPS", Str.ofString "KINDS", Str.ofString "BORDERS", Str.ofString "forward_steps", Str.ofString "forward_waves"] (XL hd.view []) (Hook.says hd.hook) PySem.Challenge.rw_ui0502_14.row.toRowW hd.rec [] fun f vs => PySem.call f vs) : PySem.Challenge.rw_ui0502_14.Holds := by
  refine holds_law hd.said fun said => ?_
  refine holds_open (q := hd.view) (loose := [Str.ofString "STEPS", Str.ofString "KINDS", Str.ofString "BORDERS", Str.ofString "forward_steps", Str.ofString "forward_waves"]) (Xt := fun s => xlAt hd.view [] s && recOk (RowW.records PySem.Challenge.rw_ui0502_14.row.toRowW) s) (XP := XL hd.view []) (Yf := Hook.obs hd.hook) (Ya := Hook.val hd.hook) (YP := Hook.says hd.hook) (N := 3312) (d := hd.rec) (kwd := []) hd.left (Hook.of hd.hook) (Hook.keeps hd.hook) (fun s e => xl_of s (Bool.and_eq_true_iff.mp e).1) XL.keeps (by kernel_rfl) (by kernel_rfl) (by kernel_rfl) (fun s e => recFacts_of (Bool.and_eq_true_iff.mp e).2) (by kernel_rfl) said (by decide +kernel) ⟨rfl, rfl, rfl, rfl, rfl, by decide +kernel⟩ ?hw h
  case hw => w_witness2
end
end Mine

-- part Aw0
set_option autoImplicit false
set_option linter.unusedVariables false
namespace Mine
open PySem

theorem size_upd (h : Heap) (a : Addr) (f : Obj → Obj) : (h.update a f).objs.size = h.objs.size := (Heap.SameBut.update h a f).1
theorem size_psh (h : Heap) (o : Obj) : (h.push o).objs.size = h.objs.size + 1 := by simp [Heap.push]
theorem runs_sz {M : Model} {Γ : Ctx} {p : Pos} {t : Sem Fin} {fs : List Frame} {s s' : Shared} {e : End} (h : Runs M Γ p t fs s e s') : s.heap.objs.size ≤ s'.heap.objs.size := by
  induction h <;> (try simp only [Shared.setGen, size_upd, size_psh] at *) <;> omega
theorem wakes_sz {M : Model} {Γ : Ctx} {p : Pos} {g : Nat} {r : Resume} {s s' : Shared} {res : GenResult} (h : Wakes M Γ p g r s res s') : s.heap.objs.size ≤ s'.heap.objs.size := by
  unfold Wakes at h
  split at h
  · exact h.elim
  · split at h
    · obtain ⟨e₁, s₁, hr, _, _, rfl⟩ := h; exact (runs_sz hr : (s.setGen g .running).heap.objs.size ≤ s₁.heap.objs.size)
    · rw [h.2]; exact Nat.le_refl _
    · rw [h.2]; exact Nat.le_refl _
  · obtain ⟨e₁, s₁, hr, _, _, rfl⟩ := h; exact (runs_sz hr : (s.setGen g .running).heap.objs.size ≤ s₁.heap.objs.size)
  · rw [h.2]; exact Nat.le_refl _
  · rw [h.2]; exact Nat.le_refl _
theorem wp_sz {α : Type} (M : Model) (Γ : Ctx) (n : Nat) (t : Sem α) : ∀ (Q : α → Pos → Shared → Prop) (E : Value → Pos → Shared → Prop) (p : Pos) (s : Shared), n ≤ s.heap.objs.size → Sem.wp M Γ t Q E p s →
    Sem.wp M Γ t (fun a p' s' => n ≤ s'.heap.objs.size ∧ Q a p' s') (fun e p' s' => n ≤ s'.heap.objs.size ∧ E e p' s') p s := by
  induction t with
  | pure a => intro Q E p s hn h; exact ⟨hn, h⟩
  | raise e => intro Q E p s hn h; exact ⟨hn, h⟩
  | unsupported _ => intro Q E p s _ h; exact h
  | finish _ => intro Q E p s _ h; exact h
  | rule _ k ih => intro Q E p s hn h; exact ih () Q E p s hn h
  | «at» p' k ih => intro Q E p s hn h; exact ih () Q E p' s hn h
  | load a _ k ih => intro Q E p s hn h; obtain ⟨o, ho, h⟩ := h; exact ⟨o, ho, ih o Q E p s hn h⟩
  | update a _ f k ih => intro Q E p s hn h; exact ⟨h.1, ih () Q E p _ (by simp only [size_upd]; exact hn) h.2⟩
  | loadIfAlive a k ih => intro Q E p s hn h; exact ih _ Q E p s hn h
  | point _ k ih => intro Q E p s hn h; exact ih () Q E p s hn h
  | register _ _ => intro Q E p s _ h; exact h
  | alloc o k ih => intro Q E p s hn h; exact ih _ Q E p _ (by simp only [size_psh]; omega) h
  | fresh k ih => intro Q E p s hn h; exact ih _ Q E p _ hn h
  | ask k ih => intro Q E p s hn h; exact ih _ Q E p s hn h
  | choose src m k ih => intro Q E p s hn h; exact ⟨h.1, ih _ Q E p _ hn h.2⟩
  | os q _ k ih => intro Q E p s hn h; exact ih _ Q E p _ hn h
  | call c hd _ _ k ih => intro Q E p s hn h; obtain ⟨r, s', hr, h⟩ := h; exact ⟨r, s', hr, ih r Q E p s' (Nat.le_trans hn (runs_sz hr)) h⟩
  | handled own k ih => intro Q E p s hn h; exact ih _ Q E p s hn h
  | genState g k ih => intro Q E p s hn h; obtain ⟨st, hs, h⟩ := h; exact ⟨st, hs, ih _ Q E p s hn h⟩
  | newGen c k ih => intro Q E p s hn h; exact ih _ Q E p _ hn h
  | resume g r _ k ih => intro Q E p s hn h; obtain ⟨res, s', hw, h⟩ := h; exact ⟨res, s', hw, ih res Q E p s' (Nat.le_trans hn (wakes_sz hw)) h⟩
  | yield _ _ _ _ => intro Q E p s _ h; exact h
  | stack k ih => intro Q E p s hn h; exact ih _ Q E p s hn h
  | fork _ _ => intro Q E p s _ h; exact h
  | thread k ih => intro Q E p s hn h; exact ih _ Q E p s hn h
  | await _ _ _ _ _ => intro Q E p s _ h; exact h
/-- the heap never shrinks -/
theorem wpAny_sz {α : Type} {M : Model} {A : Around} {s : Shared} {t : Sem α} {Q : α → Shared → Prop} {E : Value → Shared → Prop}
    (h : wpAny M A t (fun a s' => s.heap.objs.size ≤ s'.heap.objs.size → Q a s') E s) : wpAny M A t Q E s :=
  have h2 : wpAny M A t (fun a s' => s.heap.objs.size ≤ s'.heap.objs.size ∧ (s.heap.objs.size ≤ s'.heap.objs.size → Q a s')) (fun e s' => s.heap.objs.size ≤ s'.heap.objs.size ∧ E e s') s :=
    fun Γ p hΓ => wp_sz M Γ s.heap.objs.size t _ _ p s (Nat.le_refl _) (h Γ p hΓ)
  wpAny_mono h2 (fun _ _ x => x.2 x.1) (fun _ _ x => x.2)
end Mine

-- part Aw1
set_option autoImplicit false
namespace Mine
open PySem

inductive V where
  | none
  | bool (b : Bool)
  | int (i : Int)
  | str (s : Str)
  | bytes (b : Array UInt8)
  | ref (i : Nat)
  | k (v : Value)

/-- a key's part -/
inductive Atom where
  | s (x : Str)
  | i (n : Int)
  deriving DecidableEq
inductive O where
  | list (xs : List V)
  | tuple (xs : List V)
  | inst (C : Addr) (d : Nat)
  | ns (es : List (Str × V))
  | tdict (es : List (List Atom × Nat × V))

abbrev AH := List O
abbrev Loc := List (Str × Option V)

noncomputable def RV (ad : List Addr) : V → Value → Prop
  | .none, x => x = .none
  | .bool b, x => x = .bool b
  | .int i, x => ∃ t, x = .int i t
  | .str s, x => ∃ t, x = .str s t
  | .bytes b, x => ∃ t, x = .bytes b t
  | .ref i, x => ∃ a, ad[i]? = some a ∧ x = .ref a
  | .k v, x => x = v

inductive RVs (ad : List Addr) : List V → List Value → Prop
  | nil : RVs ad [] []
  | cons {v : V} {x : Value} {vs : List V} {xs : List Value} : RV ad v x → RVs ad vs xs → RVs ad (v :: vs) (x :: xs)

inductive REs (P : Params) (ad : List Addr) : List (Str × V) → List DictEntry → Prop
  | nil : REs P ad [] []
  | cons {k : Str} {v : V} {t : Tok} {x : Value} {es : List (Str × V)} {ds : List DictEntry} : RV ad v x → REs P ad es ds → REs P ad ((k, v) :: es) (⟨PyData.keyHash P k, .str k t, x⟩ :: ds)

noncomputable def atomHash (P : Params) : Atom → Int
  | .s x => PyData.keyHash P x
  | .i n => hashInt n
noncomputable def tkHash (P : Params) (ks : List Atom) : Int := reduceHash (Builtin.Tuple.tupleHashOf (ks.map (atomHash P)))
inductive RTs (P : Params) (ad : List Addr) : List (List Atom × Nat × V) → List DictEntry → Prop
  | nil : RTs P ad [] []
  | cons {ks : List Atom} {j : Nat} {a : Addr} {v : V} {x : Value} {es : List (List Atom × Nat × V)} {ds : List DictEntry} : ad[j]? = some a → RV ad v x → RTs P ad es ds → RTs P ad ((ks, j, v) :: es) (⟨tkHash P ks, .ref a, x⟩ :: ds)

noncomputable def RO (P : Params) (ad : List Addr) : O → Obj → Prop
  | .list xs, o => ∃ vs n, o = ⟨.type "list", none, .seq vs n, #[]⟩ ∧ RVs ad xs vs.toList
  | .tuple xs, o => ∃ vs n, o = ⟨.type "tuple", none, .seq vs n, #[]⟩ ∧ RVs ad xs vs.toList
  | .inst C d, o => ∃ a, ad[d]? = some a ∧ o = ⟨.ref C, some a, .plain, #[]⟩
  | .ns es, o => ∃ ds n, o = ⟨.type "dict", none, .dict ds n, #[]⟩ ∧ REs P ad es ds.toList
  | .tdict es, o => ∃ ds n, o = ⟨.type "dict", none, .dict ds n, #[]⟩ ∧ RTs P ad es ds.toList

theorem RV.mono {ad nw : List Addr} {v : V} {x : Value} (h : RV ad v x) : RV (ad ++ nw) v x := by
  cases v <;> try exact h
  obtain ⟨a, h1, h2⟩ := h
  refine ⟨a, ?_, h2⟩
  rw [List.getElem?_append_left]
  · exact h1
  · exact (List.getElem?_eq_some_iff.mp h1).1
theorem RVs.mono {ad nw : List Addr} {v : List V} {x : List Value} (h : RVs ad v x) : RVs (ad ++ nw) v x := by
  induction h with
  | nil => exact .nil
  | cons a _ ih => exact .cons a.mono ih
theorem REs.mono {P : Params} {ad nw : List Addr} {v : List (Str × V)} {x : List DictEntry} (h : REs P ad v x) : REs P (ad ++ nw) v x := by
  induction h with
  | nil => exact .nil
  | cons a _ ih => exact .cons a.mono ih
theorem RTs.mono {P : Params} {ad nw : List Addr} {v : List (List Atom × Nat × V)} {x : List DictEntry} (h : RTs P ad v x) : RTs P (ad ++ nw) v x := by
  induction h with
  | nil => exact .nil
  | cons e a _ ih => exact .cons (by rw [List.getElem?_append_left (List.getElem?_eq_some_iff.mp e).1]; exact e) a.mono ih
theorem RO.mono {P : Params} {ad nw : List Addr} {o : O} {x : Obj} (h : RO P ad o x) : RO P (ad ++ nw) o x := by
  cases o with
  | list xs => obtain ⟨vs, n, e, r⟩ := h; exact ⟨vs, n, e, r.mono⟩
  | tuple xs => obtain ⟨vs, n, e, r⟩ := h; exact ⟨vs, n, e, r.mono⟩
  | inst C d =>
    obtain ⟨a, h1, h2⟩ := h
    refine ⟨a, ?_, h2⟩
    rw [List.getElem?_append_left]
    · exact h1
    · exact (List.getElem?_eq_some_iff.mp h1).1
  | ns es => obtain ⟨vs, n, e, r⟩ := h; exact ⟨vs, n, e, r.mono⟩
  | tdict es => obtain ⟨vs, n, e, r⟩ := h; exact ⟨vs, n, e, r.mono⟩
theorem RO.notFreed {P : Params} {ad : List Addr} {o : O} {x : Obj} (h : RO P ad o x) : x.isFreed = false := by
  cases o with
  | list xs => obtain ⟨vs, n, e, r⟩ := h; subst e; rfl
  | tuple xs => obtain ⟨vs, n, e, r⟩ := h; subst e; rfl
  | inst C d => obtain ⟨a, h1, h2⟩ := h; subst h2; rfl
  | ns es => obtain ⟨vs, n, e, r⟩ := h; subst e; rfl
  | tdict es => obtain ⟨vs, n, e, r⟩ := h; subst e; rfl
theorem RVs.length {ad : List Addr} {v : List V} {x : List Value} (h : RVs ad v x) : v.length = x.length := by
  induction h with
  | nil => rfl
  | cons _ _ ih => simp [ih]
theorem RVs.get {ad : List Addr} {v : List V} {x : List Value} (h : RVs ad v x) : ∀ {i : Nat} {a : V}, v[i]? = some a → ∃ u, x[i]? = some u ∧ RV ad a u := by
  induction h with
  | nil => intro i a h; simp at h
  | cons r _ ih =>
    intro i a h
    cases i with
    | zero => simp at h; subst h; exact ⟨_, rfl, r⟩
    | succ i => simp at h; obtain ⟨u, h1, h2⟩ := ih h; exact ⟨u, by simpa using h1, h2⟩

structure Cx where
  prog : Program
  w : World
  G : Heap
  gob : List (Addr × O)
  glo : List (Str × Value)
  mg : Str → Option Value
  mb : Str → Option Value

abbrev Cx.wg (C : Cx) (l : List (Str × Value)) : Cx := { C with glo := l }
noncomputable def nmOk (x : Str) : Bool := !(x == ("__debug__" : Str)) && !(x == ("__classdict__" : Str))
theorem nmOk_d {x : Str} (h : nmOk x = true) : (x == ("__debug__" : Str)) = false := by unfold nmOk at h; simp at h ⊢; exact h.1
theorem nmOk_c {x : Str} (h : nmOk x = true) : (x == ("__classdict__" : Str)) = false := by unfold nmOk at h; simp at h ⊢; exact h.2
/-- an object of the base, as read -/
noncomputable def GO (P : Params) (h : Heap) (a : Addr) : O → Prop
  | .list xs => ∃ vs, h.IsList a vs ∧ RVs [] xs vs.toList
  | .tuple xs => ∃ vs, h.IsTuple a vs ∧ RVs [] xs vs.toList
  | o => ∃ ob, h.get? a = some ob ∧ RO P [] o ob
theorem GO.keeps {P : Params} {h h' : Heap} {a : Addr} {o : O} (x : GO P h a o) (k : ∀ b o, h.get? b = some o → h'.get? b = some o) : GO P h' a o := by
  cases o with
  | list xs => obtain ⟨vs, ⟨o, ho, r⟩, r2⟩ := x; exact ⟨vs, ⟨o, k _ _ ho, r⟩, r2⟩
  | tuple xs => obtain ⟨vs, ⟨o, ho, r⟩, r2⟩ := x; exact ⟨vs, ⟨o, k _ _ ho, r⟩, r2⟩
  | inst C d => obtain ⟨ob, h1, h2⟩ := x; exact ⟨ob, k _ _ h1, h2⟩
  | ns es => obtain ⟨ob, h1, h2⟩ := x; exact ⟨ob, k _ _ h1, h2⟩
  | tdict es => obtain ⟨ob, h1, h2⟩ := x; exact ⟨ob, k _ _ h1, h2⟩
structure Cx.Ok (C : Cx) : Prop where
  gob : ∀ a o, (a, o) ∈ C.gob → GO C.w.params C.G a o
  g : C.G.Ns mainGlobals C.mg
  b : C.G.Ns builtinsNs C.mb
  glo : ∀ x v, (x, v) ∈ C.glo → C.mg x = some v ∨ (C.mg x = none ∧ C.mb x = some v)
  lim : C.G.NoLimit

structure HR (C : Cx) (ad : List Addr) (σ : AH) (h : Heap) : Prop where
  ok : C.Ok
  keep : ∀ b o, C.G.get? b = some o → h.get? b = some o
  len : ad.length = σ.length
  nd : ad.Nodup
  off : ∀ a ∈ ad, C.G.get? a = none
  low : ∀ a ∈ ad, a ≠ sysModules
  obj : ∀ (i : Nat) (o : O) (a : Addr), σ[i]? = some o → ad[i]? = some a → ∃ ob, h.get? a = some ob ∧ RO C.w.params ad o ob

noncomputable def fa (env : Env) : List Addr := env.locals :: env.cells.map (·.2)

structure ER (C : Cx) (env : Env) (ρ : Loc) (ad : List Addr) (h : Heap) : Prop where
  kind : env.scope.kind = .function
  glob : env.globals = mainGlobals
  blt : env.builtins = builtinsNs
  nd : (ρ.map (·.1)).Nodup
  kd : ∀ x v, (x, v) ∈ ρ → env.kindOf x = some .local ∨ ((env.kindOf x = some .cell ∨ env.kindOf x = some .free) ∧ (env.cells.lookup x).isSome = true)
  m : ∃ m, h.Ns env.locals m ∧ ∀ x v, (x, some v) ∈ ρ → env.kindOf x = some .local → ∃ u, m x = some u ∧ RV ad v u
  cell : ∀ x c, env.cells.lookup x = some c → ∃ o w, h.get? c = some o ∧ o.data = .cell w ∧ (∀ v, (x, some v) ∈ ρ → env.kindOf x ≠ some .local → ∃ u, w = some u ∧ RV ad v u)
  cinj : ∀ x y c, env.cells.lookup x = some c → env.cells.lookup y = some c → x = y
  cl : ∀ x c, env.cells.lookup x = some c → c ≠ env.locals
  off : ∀ a ∈ fa env, C.G.get? a = none ∧ a ∉ ad
  lt : ∀ a ∈ fa env, a < h.objs.size
  nm : ∀ x v, (x, v) ∈ ρ → nmOk x = true
  gk : ∀ x v, (x, v) ∈ C.glo → env.kindOf x = some .globalImplicit ∧ nmOk x = true

structure Nx (C : Cx) (ch : List Addr) (ad : List Addr) (s : Shared) (ad' : List Addr) (σ' : AH) (s' : Shared) : Prop where
  eq : ∃ h tk, s' = { s with heap := h, toks := tk }
  pre : ∃ nw, ad' = ad ++ nw ∧ ∀ a ∈ nw, s.heap.objs.size ≤ a
  size : s.heap.objs.size ≤ s'.heap.objs.size
  same : ∀ b o, s.heap.get? b = some o → b ∉ ad → b ∉ ch → s'.heap.get? b = some o
  hr : HR C ad' σ' s'.heap

theorem mem_cells {env : Env} {x : Str} {c : Addr} (h : env.cells.lookup x = some c) : c ∈ fa env := by
  unfold fa
  refine List.mem_cons_of_mem _ ?_
  generalize env.cells = l at h
  induction l with
  | nil => simp at h
  | cons p r ih =>
    obtain ⟨y, d⟩ := p
    simp only [List.lookup_cons] at h
    split at h
    · cases h; simp
    · simp only [List.map_cons, List.mem_cons]; exact .inr (ih h)

theorem Nx.refl {C : Cx} {ch ad : List Addr} {σ : AH} {s : Shared} (h : HR C ad σ s.heap) : Nx C ch ad s ad σ s :=
  ⟨⟨s.heap, s.toks, rfl⟩, ⟨[], by simp, by simp⟩, Nat.le_refl _, fun _ _ e _ _ => e, h⟩
theorem Nx.tok {C : Cx} {ch ad : List Addr} {σ : AH} {s : Shared} (t : Nat) (h : HR C ad σ s.heap) : Nx C ch ad s ad σ { s with toks := t } :=
  ⟨⟨s.heap, t, rfl⟩, ⟨[], by simp, by simp⟩, Nat.le_refl _, fun _ _ e _ _ => e, h⟩
theorem Nx.trans {C : Cx} {ch ad ad1 ad2 : List Addr} {σ1 σ2 : AH} {s s1 s2 : Shared} (a : Nx C ch ad s ad1 σ1 s1) (b : Nx C ch ad1 s1 ad2 σ2 s2) : Nx C ch ad s ad2 σ2 s2 := by
  obtain ⟨h1, t1, e1⟩ := a.eq
  obtain ⟨h2, t2, e2⟩ := b.eq
  obtain ⟨n1, p1, q1⟩ := a.pre
  obtain ⟨n2, p2, q2⟩ := b.pre
  refine ⟨⟨h2, t2, by rw [e2, e1]⟩, ⟨n1 ++ n2, by rw [p2, p1, List.append_assoc], ?_⟩, Nat.le_trans a.size b.size, ?_, b.hr⟩
  · intro x hx
    rcases List.mem_append.mp hx with hx | hx
    · exact q1 x hx
    · exact Nat.le_trans a.size (q2 x hx)
  · intro x o e n c
    refine b.same x o (a.same x o e n c) ?_ c
    rw [p1]
    intro hx
    rcases List.mem_append.mp hx with hx | hx
    · exact n hx
    · exact absurd (Heap.lt_size e) (Nat.not_lt.mpr (q1 x hx))
theorem Nx.weak {C : Cx} {ch ad ad1 : List Addr} {σ1 : AH} {s s1 : Shared} (a : Nx C [] ad s ad1 σ1 s1) : Nx C ch ad s ad1 σ1 s1 :=
  ⟨a.eq, a.pre, a.size, fun b o e n _ => a.same b o e n (by simp), a.hr⟩
theorem Nx.rv {C : Cx} {ch ad ad1 : List Addr} {σ1 : AH} {s s1 : Shared} (a : Nx C ch ad s ad1 σ1 s1) {v : V} {x : Value} (h : RV ad v x) : RV ad1 v x := by
  obtain ⟨n1, p1, q1⟩ := a.pre; rw [p1]; exact h.mono
theorem Nx.rvs {C : Cx} {ch ad ad1 : List Addr} {σ1 : AH} {s s1 : Shared} (a : Nx C ch ad s ad1 σ1 s1) {v : List V} {x : List Value} (h : RVs ad v x) : RVs ad1 v x := by
  obtain ⟨n1, p1, q1⟩ := a.pre; rw [p1]; exact h.mono

theorem ER.next {C : Cx} {env : Env} {ρ : Loc} {ad ad1 : List Addr} {σ1 : AH} {s s1 : Shared} (r : ER C env ρ ad s.heap) (a : Nx C [] ad s ad1 σ1 s1) : ER C env ρ ad1 s1.heap := by
  have keep : ∀ b ∈ fa env, ∀ o, s.heap.get? b = some o → s1.heap.get? b = some o := fun b hb o e => a.same b o e (r.off b hb).2 (by simp)
  refine ⟨r.kind, r.glob, r.blt, r.nd, r.kd, ?_, ?_, r.cinj, r.cl, ?_, fun b hb => Nat.lt_of_lt_of_le (r.lt b hb) a.size, r.nm, r.gk⟩
  · obtain ⟨m, hm, h⟩ := r.m
    refine ⟨m, hm.at' fun o e => keep _ (by simp [fa]) o e, fun x v hx hk => ?_⟩
    obtain ⟨u, h1, h2⟩ := h x v hx hk
    exact ⟨u, h1, a.rv h2⟩
  · intro x c hc
    obtain ⟨o, w, h1, h2, h3⟩ := r.cell x c hc
    refine ⟨o, w, keep c (mem_cells hc) o h1, h2, fun v hv hk => ?_⟩
    obtain ⟨u, e, hu⟩ := h3 v hv hk
    exact ⟨u, e, a.rv hu⟩
  · intro b hb
    refine ⟨(r.off b hb).1, ?_⟩
    obtain ⟨n1, p1, q1⟩ := a.pre
    rw [p1]
    intro hx
    rcases List.mem_append.mp hx with hx | hx
    · exact (r.off b hb).2 hx
    · exact absurd (r.lt b hb) (Nat.not_lt.mpr (q1 b hx))

end Mine

-- part Aw2
set_option autoImplicit false
set_option linter.unusedVariables false
namespace Mine
open PySem PyProof.Rows

inductive Fl where
  | next
  | brk
  | cont
  | ret (v : V)
noncomputable def RF (ad : List Addr) : Fl → Flow → Prop
  | .next, f => f = .next
  | .brk, f => f = .brk
  | .cont, f => f = .cont
  | .ret v, f => ∃ u, f = .ret u ∧ RV ad v u

/- the syntax looked at, cheaply -/
noncomputable def isCompE : Expr → Bool
  | .ListComp .. => true
  | .SetComp .. => true
  | .DictComp .. => true
  | _ => false
theorem swaps_not {e : Expr} {t : Option Expr} {l : Nat} {env : Env} (h : isCompE e = false) : swapsWith e t l env = pure false := by
  cases e <;> first | rfl | cases h
noncomputable def isSetE : Expr → Bool
  | .Set .. => true
  | _ => false
theorem folded_not {e : Expr} {env : Env} (h : isSetE e = false) : ∀ x, foldedSetIterable e env x = pure x := by
  intro x
  cases e <;> first | rfl | cases h
theorem marks_not {op : CmpOp} {e : Expr} (h : isSetE e = false) : behindInMarks op e = false := by
  cases e <;> first | rfl | cases h
noncomputable def starE : Expr → Bool
  | .Starred .. => true
  | _ => false
theorem star_not {e : Expr} {es : List Expr} {env : Env} (h : starE e = false) : starEach (e :: es) env = (false, eval e env) :: starEach es env := by
  cases e <;> first | rfl | cases h
theorem assign_not {e : Expr} {es : List Expr} {env : Env} (h : starE e = false) : assignEach (e :: es) env = (false, assign e env) :: assignEach es env := by
  cases e <;> first | rfl | cases h
noncomputable def plainTest : Expr → Bool
  | .UnaryOp .Not _ _ => false
  | .BoolOp .. => false
  | .IfExp .. => false
  | .Compare .. => false
  | _ => true
theorem test_plain {e : Expr} {env : Env} (h : plainTest e = true) : ∀ whole, isTrue e env whole = (do let v ← whole; standAt e.pos; holding [v] (truthy v)) := by
  intro w
  cases e with
  | UnaryOp op x p => cases op <;> first | rfl | cases h
  | _ => first | rfl | cases h

abbrev EX := Value → Shared → Prop
noncomputable def PE (C : Cx) (ad : List Addr) (s : Shared) (Q : V → AH → Prop) : Value → Shared → Prop :=
  fun u s' => ∃ ad' σ' v, Nx C [] ad s ad' σ' s' ∧ RV ad' v u ∧ Q v σ'
noncomputable def PB (C : Cx) (ad : List Addr) (s : Shared) (Q : Bool → AH → Prop) : Bool → Shared → Prop :=
  fun u s' => ∃ ad' σ', Nx C [] ad s ad' σ' s' ∧ Q u σ'
noncomputable def PL (C : Cx) (ad : List Addr) (s : Shared) (Q : List V → AH → Prop) : List Value → Shared → Prop :=
  fun u s' => ∃ ad' σ' v, Nx C [] ad s ad' σ' s' ∧ RVs ad' v u ∧ Q v σ'
noncomputable def PS (C : Cx) (env : Env) (ad : List Addr) (s : Shared) (Q : Fl → Loc → AH → Prop) : Flow → Shared → Prop :=
  fun f s' => ∃ ad' σ' ρ' fl, Nx C (fa env) ad s ad' σ' s' ∧ ER C env ρ' ad' s'.heap ∧ RF ad' fl f ∧ Q fl ρ' σ'

structure WE (C : Cx) (A : Around) (env : Env) (e : Expr) (ρ : Loc) (σ : AH) (Q : V → AH → Prop) (E : EX) : Prop where
  run : ∀ ad s, HR C ad σ s.heap → ER C env ρ ad s.heap → wpAny (model C.prog C.w) A (eval e env) (PE C ad s Q) E s
structure WB (C : Cx) (A : Around) (env : Env) (e : Expr) (ρ : Loc) (σ : AH) (Q : Bool → AH → Prop) (E : EX) : Prop where
  run : ∀ ad s, HR C ad σ s.heap → ER C env ρ ad s.heap → wpAny (model C.prog C.w) A (isTrue e env (eval e env)) (PB C ad s Q) E s
structure WL (C : Cx) (A : Around) (env : Env) (es : List Expr) (ρ : Loc) (σ : AH) (Q : List V → AH → Prop) (E : EX) : Prop where
  run : ∀ ad s pos, HR C ad σ s.heap → ER C env ρ ad s.heap → wpAny (model C.prog C.w) A (spliced (backTo pos (starEach es env))) (PL C ad s Q) E s
structure WS (C : Cx) (A : Around) (env : Env) (st : Stmt) (ρ : Loc) (σ : AH) (Q : Fl → Loc → AH → Prop) (E : EX) : Prop where
  run : ∀ ad s, HR C ad σ s.heap → ER C env ρ ad s.heap → wpAny (model C.prog C.w) A (exec st env) (PS C env ad s Q) E s
structure WSs (C : Cx) (A : Around) (env : Env) (st : List Stmt) (ρ : Loc) (σ : AH) (Q : Fl → Loc → AH → Prop) (E : EX) : Prop where
  run : ∀ ad s, HR C ad σ s.heap → ER C env ρ ad s.heap → wpAny (model C.prog C.w) A (execs st env) (PS C env ad s Q) E s
structure WOp2 (C : Cx) (A : Around) (t : Value → Value → Sem Value) (a b : V) (σ : AH) (Q : V → AH → Prop) (E : EX) : Prop where
  run : ∀ ad s x y, HR C ad σ s.heap → RV ad a x → RV ad b y → wpAny (model C.prog C.w) A (t x y) (PE C ad s Q) E s
structure WOp1 (C : Cx) (A : Around) (t : Value → Sem Value) (a : V) (σ : AH) (Q : V → AH → Prop) (E : EX) : Prop where
  run : ∀ ad s x, HR C ad σ s.heap → RV ad a x → wpAny (model C.prog C.w) A (t x) (PE C ad s Q) E s
structure WTr (C : Cx) (A : Around) (a : V) (σ : AH) (Q : Bool → AH → Prop) (E : EX) : Prop where
  run : ∀ ad s x, HR C ad σ s.heap → RV ad a x → wpAny (model C.prog C.w) A (truthy x) (PB C ad s Q) E s
structure WC (C : Cx) (A : Around) (f : Value) (args : List V) (σ : AH) (Q : V → AH → Prop) (E : EX) : Prop where
  run : ∀ ad s xs, HR C ad σ s.heap → RVs ad args xs → wpAny (model C.prog C.w) A (call f xs) (PE C ad s Q) E s

section
variable {C : Cx} {A : Around} {env : Env} {ρ : Loc} {σ : AH} {E : EX}

theorem PE.trans {ad ad1 : List Addr} {s s1 s' : Shared} {σ1 : AH} {Q : V → AH → Prop} {u : Value} (n : Nx C [] ad s ad1 σ1 s1) (p : PE C ad1 s1 Q u s') : PE C ad s Q u s' := by
  obtain ⟨ad', σ', v, a, b, c⟩ := p
  exact ⟨ad', σ', v, n.trans a, b, c⟩
theorem PB.trans {ad ad1 : List Addr} {s s1 s' : Shared} {σ1 : AH} {Q : Bool → AH → Prop} {u : Bool} (n : Nx C [] ad s ad1 σ1 s1) (p : PB C ad1 s1 Q u s') : PB C ad s Q u s' := by
  obtain ⟨ad', σ', a, c⟩ := p
  exact ⟨ad', σ', n.trans a, c⟩
theorem PS.trans {ad ad1 : List Addr} {s s1 s' : Shared} {σ1 : AH} {Q : Fl → Loc → AH → Prop} {u : Flow} (n : Nx C (fa env) ad s ad1 σ1 s1) (p : PS C env ad1 s1 Q u s') : PS C env ad s Q u s' := by
  obtain ⟨ad', σ', ρ', fl, a, b, c⟩ := p
  exact ⟨ad', σ', ρ', fl, n.trans a, b, c⟩

/- expressions -/
theorem WE_int {i : Int} {k : Nat} {pos : Pos} {Q : V → AH → Prop} (h : Q (.int i) σ) : WE C A env (.Constant (.int i) k pos) ρ σ Q E := .mk <|
  fun ad s hr _ => wpAny_Constant_int ⟨ad, σ, .int i, Nx.tok _ hr, ⟨_, rfl⟩, h⟩
theorem WE_str {i : Str} {k : Nat} {pos : Pos} {Q : V → AH → Prop} (h : Q (.str i) σ) : WE C A env (.Constant (.str i) k pos) ρ σ Q E := .mk <|
  fun ad s hr _ => wpAny_Constant_str ⟨ad, σ, .str i, Nx.tok _ hr, ⟨_, rfl⟩, h⟩
theorem WE_none {k : Nat} {pos : Pos} {Q : V → AH → Prop} (h : Q .none σ) : WE C A env (.Constant .none k pos) ρ σ Q E := .mk <|
  fun ad s hr _ => wpAny_Constant_none ⟨ad, σ, .none, Nx.refl hr, rfl, h⟩
theorem WE_bool {b : Bool} {k : Nat} {pos : Pos} {Q : V → AH → Prop} (h : Q (.bool b) σ) : WE C A env (.Constant (.bool b) k pos) ρ σ Q E := .mk <|
  fun ad s hr _ => wpAny_Constant_bool ⟨ad, σ, .bool b, Nx.refl hr, rfl, h⟩

theorem WE_BinOp {l r : Expr} {op : Operator} {pos : Pos} {Q : V → AH → Prop}
    (h : WE C A env l ρ σ (fun a σ1 => WE C A env r ρ σ1 (fun b σ2 => WOp2 C A (binaryOp op) a b σ2 Q E) E) E) : WE C A env (.BinOp l op r pos) ρ σ Q E := by
  refine ⟨?_⟩
  intro ad s hr er
  refine wpAny_BinOp (wpAny_mono (h.run ad s hr er) ?_ fun _ _ x => x)
  rintro a s1 ⟨ad1, σ1, va, n1, r1, h1⟩
  refine wpAny_mono (h1.run ad1 s1 n1.hr (er.next n1)) ?_ fun _ _ x => x
  rintro b s2 ⟨ad2, σ2, vb, n2, r2, h2⟩
  exact wpAny_mono (h2.run ad2 s2 a b n2.hr (n2.rv r1) r2) (fun u s' p => PE.trans (n1.trans n2) p) fun _ _ x => x
theorem WE_UnaryOp {x : Expr} {op : UnaryOp} {pos : Pos} {Q : V → AH → Prop}
    (h : WE C A env x ρ σ (fun a σ1 => WOp1 C A (unaryOp op) a σ1 Q E) E) : WE C A env (.UnaryOp op x pos) ρ σ Q E := by
  refine ⟨?_⟩
  intro ad s hr er
  refine wpAny_UnaryOp (wpAny_mono (h.run ad s hr er) ?_ fun _ _ x => x)
  rintro a s1 ⟨ad1, σ1, va, n1, r1, h1⟩
  exact wpAny_mono (h1.run ad1 s1 a n1.hr r1) (fun u s' p => PE.trans n1 p) fun _ _ x => x
theorem WE_Compare1 {l r : Expr} {op : CmpOp} {pos : Pos} {Q : V → AH → Prop}
    (h : WE C A env l ρ σ (fun a σ1 => WE C A env r ρ σ1 (fun b σ2 => WOp2 C A (compareOp op) a b σ2 Q E) E) E)
    (hm : isSetE r = false := by rfl) : WE C A env (.Compare l [op] [r] pos) ρ σ Q E := by
  refine ⟨?_⟩
  intro ad s hr er
  refine wpAny_Compare1 (wpAny_mono (h.run ad s hr er) ?_ fun _ _ x => x) (marks_not hm)
  rintro a s1 ⟨ad1, σ1, va, n1, r1, h1⟩
  refine wpAny_mono (h1.run ad1 s1 n1.hr (er.next n1)) ?_ fun _ _ x => x
  rintro b s2 ⟨ad2, σ2, vb, n2, r2, h2⟩
  exact wpAny_mono (h2.run ad2 s2 a b n2.hr (n2.rv r1) r2) (fun u s' p => PE.trans (n1.trans n2) p) fun _ _ x => x
theorem WB_Compare1 {l r : Expr} {op : CmpOp} {pos : Pos} {Q : Bool → AH → Prop}
    (h : WE C A env l ρ σ (fun a σ1 => WE C A env r ρ σ1 (fun b σ2 => WOp2 C A (compareOp op) a b σ2 (fun c σ3 => WTr C A c σ3 Q E) E) E) E)
    (hm : isSetE r = false := by rfl) : WB C A env (.Compare l [op] [r] pos) ρ σ Q E := by
  refine ⟨?_⟩
  intro ad s hr er
  refine wpAny_isTrue_Compare1 (wpAny_mono (h.run ad s hr er) ?_ fun _ _ x => x) (marks_not hm)
  rintro a s1 ⟨ad1, σ1, va, n1, r1, h1⟩
  refine wpAny_mono (h1.run ad1 s1 n1.hr (er.next n1)) ?_ fun _ _ x => x
  rintro b s2 ⟨ad2, σ2, vb, n2, r2, h2⟩
  refine wpAny_mono (h2.run ad2 s2 a b n2.hr (n2.rv r1) r2) ?_ fun _ _ x => x
  rintro c s3 ⟨ad3, σ3, vc, n3, r3, h3⟩
  exact wpAny_mono (h3.run ad3 s3 c n3.hr r3) (fun u s' p => PB.trans ((n1.trans n2).trans n3) p) fun _ _ x => x
theorem WTr_bool {b : Bool} {Q : Bool → AH → Prop} (h : Q b σ) : WTr C A (.bool b) σ Q E := by
  refine ⟨?_⟩
  rintro ad s x hr rfl
  exact wpAny_truthy_bool ⟨ad, σ, Nx.refl hr, h⟩
theorem WB_plain {e : Expr} {Q : Bool → AH → Prop} (h : WE C A env e ρ σ (fun v σ1 => WTr C A v σ1 Q E) E)
    (hp : plainTest e = true := by rfl) : WB C A env e ρ σ Q E := by
  refine ⟨?_⟩
  intro ad s hr er
  rw [test_plain hp]
  refine wpAny_bind (wpAny_mono (h.run ad s hr er) ?_ fun _ _ x => x)
  rintro a s1 ⟨ad1, σ1, va, n1, r1, h1⟩
  exact wpAny_bind (wpAny_standAt (wpAny_holding (wpAny_mono (h1.run ad1 s1 a n1.hr r1) (fun u s' p => PB.trans n1 p) fun _ _ x => x)))
theorem WB_or_nil {pos : Pos} {Q : Bool → AH → Prop} (h : Q false σ) : WB C A env (.BoolOp .Or [] pos) ρ σ Q E := .mk fun ad _ hr _ => isTrue_or_nil ⟨ad, σ, Nx.refl hr, h⟩
theorem isTrue_BoolOp_whole {op : BoolOp} {vs : List Expr} {pos : Pos} (x y : Sem Value) : isTrue (.BoolOp op vs pos) env x = isTrue (.BoolOp op vs pos) env y := rfl
theorem WB_or {x : Expr} {rest : List Expr} {pos : Pos} {Q : Bool → AH → Prop} (h : WB C A env x ρ σ (fun b σ1 => if b then Q true σ1 else WB C A env (.BoolOp .Or rest pos) ρ σ1 Q E) E) :
    WB C A env (.BoolOp .Or (x :: rest) pos) ρ σ Q E := by
  refine ⟨?_⟩
  intro ad s hr er
  refine isTrue_or (wpAny_mono (h.run ad s hr er) ?_ fun _ _ x => x)
  rintro b s1 ⟨ad1, σ1, n1, h1⟩
  cases b with
  | true => exact ⟨ad1, σ1, n1, h1⟩
  | false => rw [isTrue_BoolOp_whole _ (eval (.BoolOp .Or rest pos) env)]; exact wpAny_mono (h1.run ad1 s1 n1.hr (er.next n1)) (fun u s' p => PB.trans n1 p) fun _ _ x => x
theorem WE_IfExp {test body orelse : Expr} {pos : Pos} {Q : V → AH → Prop} (h : WB C A env test ρ σ (fun b σ1 => if b then WE C A env body ρ σ1 Q E else WE C A env orelse ρ σ1 Q E) E) :
    WE C A env (.IfExp test body orelse pos) ρ σ Q E := by
  refine ⟨?_⟩
  intro ad s hr er
  refine wpAny_IfExp (wpAny_mono (h.run ad s hr er) ?_ fun _ _ x => x)
  rintro b s1 ⟨ad1, σ1, n1, h1⟩
  cases b with
  | true => exact wpAny_mono (h1.run ad1 s1 n1.hr (er.next n1)) (fun u s' p => PE.trans n1 p) fun _ _ x => x
  | false => exact wpAny_mono (h1.run ad1 s1 n1.hr (er.next n1)) (fun u s' p => PE.trans n1 p) fun _ _ x => x
/- lists of expressions -/
theorem WL_nil {Q : List V → AH → Prop} (h : Q [] σ) : WL C A env [] ρ σ Q E := .mk fun ad _ _ hr _ => Calls.spliced_nil ⟨ad, σ, [], Nx.refl hr, .nil, h⟩
theorem WL_cons {e : Expr} {es : List Expr} {Q : List V → AH → Prop} (h : WE C A env e ρ σ (fun v σ1 => WL C A env es ρ σ1 (fun vs σ2 => Q (v :: vs) σ2) E) E)
    (he : starE e = false := by rfl) : WL C A env (e :: es) ρ σ Q E := by
  refine ⟨?_⟩
  intro ad s pos hr er
  rw [star_not he]
  refine Calls.spliced_cons (wpAny_mono (h.run ad s hr er) ?_ fun _ _ x => x)
  rintro a s1 ⟨ad1, σ1, va, n1, r1, h1⟩
  refine wpAny_mono (h1.run ad1 s1 pos n1.hr (er.next n1)) ?_ fun _ _ x => x
  rintro b s2 ⟨ad2, σ2, vb, n2, r2, h2⟩
  exact ⟨ad2, σ2, va :: vb, n1.trans n2, .cons (n2.rv r1) r2, h2⟩

/- names -/
theorem WE_name {x : Str} {pos : Pos} {v : V} {Q : V → AH → Prop} (hx : (x, some v) ∈ ρ) (h : Q v σ) :
    WE C A env (.Name x pos) ρ σ Q E := by
  refine ⟨?_⟩
  intro ad s hr er
  have hn := nmOk_c (er.nm x _ hx)
  refine wpAny_Name ?_ (nmOk_d (er.nm x _ hx))
  rcases er.kd x _ hx with hk | ⟨hk, hc⟩
  · obtain ⟨m, hm, h1⟩ := er.m
    obtain ⟨u, hu, rv⟩ := h1 x v hx hk
    exact wpAny_loadName_local er.kind hk hm hu ⟨ad, σ, v, Nx.refl hr, rv, h⟩
  · obtain ⟨c, hc⟩ := Option.isSome_iff_exists.mp hc
    obtain ⟨o, w, ho, hw, hv⟩ := er.cell x c hc
    obtain ⟨u, e, rv⟩ := hv v hx (by rcases hk with hk | hk <;> rw [hk] <;> simp)
    subst e
    rcases hk with hk | hk
    · exact wpAny_loadName_cell er.kind hk hc ⟨o, ho, hw⟩ ⟨ad, σ, v, Nx.refl hr, rv, h⟩
    · exact wpAny_loadName_free er.kind hk hc ⟨o, ho, hw⟩ ⟨ad, σ, v, Nx.refl hr, rv, h⟩ hn
theorem WE_glob {C : Cx} {l : List (Str × Value)} {x : Str} {pos : Pos} {v : Value} {Q : V → AH → Prop} (hx : (x, v) ∈ l) (h : Q (.k v) σ) :
    WE (C.wg l) A env (.Name x pos) ρ σ Q E := by
  refine ⟨?_⟩
  intro ad s hr er
  obtain ⟨hk, hn⟩ := er.gk x v hx
  refine Calls.Name_function_global er.kind hk ?_ (nmOk_d hn)
  have fin : PE (C.wg l) ad s Q v s := ⟨ad, σ, .k v, Nx.refl hr, rfl, h⟩
  rcases hr.ok.glo x v hx with e | ⟨e1, e2⟩
  · exact Calls.loadGlobal_global (by rw [er.glob]; exact hr.ok.g.keeps hr.keep) e fin
  · exact Calls.loadGlobal_builtin (by rw [er.glob]; exact hr.ok.g.keeps hr.keep) e1 (by rw [er.blt]; exact hr.ok.b.keeps hr.keep) e2 fin

/- statements -/
theorem PS.ofE {ad : List Addr} {s s1 : Shared} {ad1 : List Addr} {σ1 : AH} {Q : Fl → Loc → AH → Prop} {fl : Fl} {f : Flow} (er : ER C env ρ ad s.heap) (n : Nx C [] ad s ad1 σ1 s1) (hf : RF ad1 fl f) (h : Q fl ρ σ1) : PS C env ad s Q f s1 :=
  ⟨ad1, σ1, ρ, fl, n.weak, er.next n, hf, h⟩
theorem WSs_nil {Q : Fl → Loc → AH → Prop} (h : Q .next ρ σ) : WSs C A env [] ρ σ Q E := .mk fun ad s hr er => wpAny_execs_nil ⟨ad, σ, ρ, .next, Nx.refl hr, er, rfl, h⟩
structure Thn (C : Cx) (A : Around) (env : Env) (rest : List Stmt) (Q : Fl → Loc → AH → Prop) (E : EX) (fl : Fl) (ρ : Loc) (σ : AH) : Prop where
  run : match fl with
    | .next => WSs C A env rest ρ σ Q E
    | f => Q f ρ σ
theorem Thn_next {rest : List Stmt} {Q : Fl → Loc → AH → Prop} (h : WSs C A env rest ρ σ Q E) : Thn C A env rest Q E .next ρ σ := ⟨h⟩
theorem Thn_ret {rest : List Stmt} {Q : Fl → Loc → AH → Prop} {v : V} (h : Q (.ret v) ρ σ) : Thn C A env rest Q E (.ret v) ρ σ := ⟨h⟩
theorem WSs_cons {st : Stmt} {rest : List Stmt} {Q : Fl → Loc → AH → Prop} (h : WS C A env st ρ σ (Thn C A env rest Q E) E) : WSs C A env (st :: rest) ρ σ Q E := by
  refine ⟨?_⟩
  intro ad s hr er
  refine wpAny_execs_cons (wpAny_mono (h.run ad s hr er) ?_ fun _ _ x => x)
  rintro f s1 ⟨ad1, σ1, ρ1, fl, n1, e1, r1, ⟨h1⟩⟩
  cases fl with
  | next => cases r1; exact wpAny_mono (h1.run ad1 s1 n1.hr e1) (fun u s' p => PS.trans n1 p) fun _ _ x => x
  | brk => cases r1; exact ⟨ad1, σ1, ρ1, .brk, n1, e1, rfl, h1⟩
  | cont => cases r1; exact ⟨ad1, σ1, ρ1, .cont, n1, e1, rfl, h1⟩
  | ret v => obtain ⟨u, rfl, ru⟩ := r1; exact ⟨ad1, σ1, ρ1, .ret v, n1, e1, ⟨u, rfl, ru⟩, h1⟩
theorem WS_return {e : Expr} {pos : Pos} {Q : Fl → Loc → AH → Prop} (h : WE C A env e ρ σ (fun v σ1 => Q (.ret v) ρ σ1) E) : WS C A env (.Return (some e) pos) ρ σ Q E := by
  refine ⟨?_⟩
  intro ad s hr er
  refine wpAny_Return_some (wpAny_mono (h.run ad s hr er) ?_ fun _ _ x => x)
  rintro a s1 ⟨ad1, σ1, va, n1, r1, h1⟩
  exact PS.ofE er n1 (fl := .ret va) ⟨a, rfl, r1⟩ h1
theorem WS_if {test : Expr} {body orelse : List Stmt} {pos : Pos} {Q : Fl → Loc → AH → Prop} (h : WB C A env test ρ σ (fun b σ1 => if b then WSs C A env body ρ σ1 Q E else WSs C A env orelse ρ σ1 Q E) E) : WS C A env (.If test body orelse pos) ρ σ Q E := by
  refine ⟨?_⟩
  intro ad s hr er
  refine wpAny_If (wpAny_mono (h.run ad s hr er) ?_ fun _ _ x => x)
  rintro b s1 ⟨ad1, σ1, n1, h1⟩
  cases b with
  | true => exact wpAny_mono (h1.run ad1 s1 n1.hr (er.next n1)) (fun u s' p => PS.trans n1.weak p) fun _ _ x => x
  | false => exact wpAny_mono (h1.run ad1 s1 n1.hr (er.next n1)) (fun u s' p => PS.trans n1.weak p) fun _ _ x => x

inductive Up (x : Str) (v : Option V) : Loc → Loc → Prop
  | head {w : Option V} {r : Loc} : Up x v ((x, w) :: r) ((x, v) :: r)
  | tail {p : Str × Option V} {r r' : Loc} : Up x v r r' → Up x v (p :: r) (p :: r')
theorem Up.names {x : Str} {v : Option V} {r r' : Loc} (h : Up x v r r') : r'.map (·.1) = r.map (·.1) := by
  induction h with
  | head => rfl
  | tail _ ih => simp [ih]
theorem Up.mem {x : Str} {v : Option V} {r r' : Loc} (h : Up x v r r') : ∃ w, (x, w) ∈ r := by
  induction h with
  | head => exact ⟨_, .head _⟩
  | tail _ ih => obtain ⟨w, h⟩ := ih; exact ⟨w, .tail _ h⟩
theorem Up.new {x : Str} {v : Option V} {r r' : Loc} (h : Up x v r r') (nd : (r.map (·.1)).Nodup) : ∀ y w, (y, w) ∈ r' → (y = x ∧ w = v) ∨ (y ≠ x ∧ (y, w) ∈ r) := by
  induction h with
  | @head w0 r =>
    intro y w hm
    rcases List.mem_cons.mp hm with e | hm2
    · cases e; exact .inl ⟨rfl, rfl⟩
    · refine .inr ⟨?_, List.mem_cons_of_mem _ hm2⟩
      intro e
      subst e
      simp only [List.map_cons, List.nodup_cons] at nd
      exact nd.1 (List.mem_map.mpr ⟨(y, w), hm2, rfl⟩)
  | @tail p r r' u ih =>
    intro y w hm
    simp only [List.map_cons, List.nodup_cons] at nd
    rcases List.mem_cons.mp hm with e | hm
    · cases e
      refine .inr ⟨?_, .head _⟩
      rintro rfl
      obtain ⟨w', h'⟩ := u.mem
      exact nd.1 (List.mem_map.mpr ⟨_, h', rfl⟩)
    · rcases ih nd.2 y w hm with h1 | h1
      · exact .inl h1
      · exact .inr ⟨h1.1, .tail _ h1.2⟩

theorem exUp {x : Str} {v : Option V} {ρ ρ' : Loc} {P : Loc → Prop} (h : Up x v ρ ρ') (k : P ρ') : ∃ ρ', Up x v ρ ρ' ∧ P ρ' := ⟨_, h, k⟩
/-- a store of a name -/
theorem store_name {x : Str} {v : V} {ρ' : Loc} {u : Value} {ad : List Addr} {s : Shared} {R : Unit → Shared → Prop} (hr : HR C ad σ s.heap) (er : ER C env ρ ad s.heap) (up : Up x (some v) ρ ρ') (rv : RV ad v u)
    (h : ∀ s', Nx C (fa env) ad s ad σ s' → ER C env ρ' ad s'.heap → R () s') : wpAny (model C.prog C.w) A (storeName env x u) R E s := by
  obtain ⟨w0, hw0⟩ := up.mem
  have hoff : ∀ b ∈ fa env, b ∉ ad ∧ C.G.get? b = none := fun b hb => ⟨(er.off b hb).2, (er.off b hb).1⟩
  have fin : ∀ a h' tk, a ∈ fa env → Heap.SameBut a s.heap h' → HR C ad σ h' ∧ (Nx C (fa env) ad s ad σ { s with heap := h', toks := tk }) := by
    intro a h' tk ha hs
    have hr' : HR C ad σ h' := by
      refine ⟨hr.ok, fun b o e => (hs.2 b ?_).trans (hr.keep b o e), hr.len, hr.nd, hr.off, hr.low, fun i o b h1 h2 => ?_⟩
      · rintro rfl; rw [(hoff b ha).2] at e; cases e
      · obtain ⟨ob, h3, h4⟩ := hr.obj i o b h1 h2
        refine ⟨ob, (hs.2 b ?_).trans h3, h4⟩
        rintro rfl; exact (hoff b ha).1 (List.mem_of_getElem? h2)
    refine ⟨hr', ⟨h', tk, rfl⟩, ⟨[], by simp, by simp⟩, Nat.le_of_eq hs.1.symm, fun b o e _ hc => ?_, hr'⟩
    exact (hs.2 b (fun e' => hc (e' ▸ ha))).trans e
  rcases er.kd x _ hw0 with hk | ⟨hk, hc⟩
  · obtain ⟨m, hm, h1⟩ := er.m
    refine wpAny_storeName_local hk hm (fun h' hn hs => ?_) (by rw [er.kind]; rfl)
    obtain ⟨hr', nx⟩ := fin env.locals h' (s.toks + 1) (by simp [fa]) hs
    refine h _ nx ⟨er.kind, er.glob, er.blt, by rw [up.names]; exact er.nd, fun y w hy => ?_, ⟨_, hn, fun y w hy hyk => ?_⟩, fun y c hc => ?_, er.cinj, er.cl, er.off, fun b hb => by rw [hs.1]; exact er.lt b hb, fun y w hy => ?_, er.gk⟩
    · rcases up.new er.nd y w hy with ⟨rfl, rfl⟩ | ⟨_, hy⟩
      · exact er.kd y _ hw0
      · exact er.kd y w hy
    · rcases up.new er.nd y _ hy with ⟨rfl, e⟩ | ⟨hne, hy⟩
      · cases e; exact ⟨u, by simp, rv⟩
      · simp only [if_neg hne]; exact h1 y w hy hyk
    · obtain ⟨o, w, ho, hw, hv⟩ := er.cell y c hc
      refine ⟨o, w, (hs.2 c (er.cl y c hc)).trans ho, hw, fun v' hv' hk' => ?_⟩
      rcases up.new er.nd y _ hv' with ⟨rfl, e⟩ | ⟨hne, hy⟩
      · exact absurd hk hk'
      · exact hv v' hy hk'
    · rcases up.new er.nd y w hy with ⟨rfl, rfl⟩ | ⟨_, hy⟩
      · exact er.nm y _ hw0
      · exact er.nm y w hy
  · obtain ⟨c, hc⟩ := Option.isSome_iff_exists.mp hc
    obtain ⟨o, w, ho, hw, hv⟩ := er.cell x c hc
    have step : ∀ h', (∃ o', h'.get? c = some o' ∧ o'.data = .cell (some u)) → Heap.SameBut c s.heap h' → R () { s with heap := h' } := by
      rintro h' ⟨o', ho', hd'⟩ hs
      obtain ⟨hr', nx⟩ := fin c h' s.toks (mem_cells hc) hs
      refine h _ nx ⟨er.kind, er.glob, er.blt, by rw [up.names]; exact er.nd, fun y w hy => ?_, ?_, fun y d hd => ?_, er.cinj, er.cl, er.off, fun b hb => by rw [hs.1]; exact er.lt b hb, fun y w hy => ?_, er.gk⟩
      · rcases up.new er.nd y w hy with ⟨rfl, rfl⟩ | ⟨_, hy⟩
        · exact er.kd y _ hw0
        · exact er.kd y w hy
      · obtain ⟨m, hm, h1⟩ := er.m
        refine ⟨m, hm.sameBut hs (Ne.symm (er.cl x c hc)), fun y w hy hyk => ?_⟩
        rcases up.new er.nd y _ hy with ⟨rfl, e⟩ | ⟨hne, hy⟩
        · rcases hk with hk | hk <;> rw [hyk] at hk <;> cases hk
        · exact h1 y w hy hyk
      · by_cases hyx : y = x
        · subst hyx
          rw [hc] at hd; cases hd
          refine ⟨o', _, ho', hd', fun v' hv' _ => ?_⟩
          rcases up.new er.nd y _ hv' with ⟨_, e⟩ | ⟨hne, _⟩
          · cases e; exact ⟨u, rfl, rv⟩
          · exact absurd rfl hne
        · have hdc : d ≠ c := by rintro rfl; exact hyx (er.cinj y x d hd hc)
          obtain ⟨oy, wy, hoy, hwy, hvy⟩ := er.cell y d hd
          refine ⟨oy, wy, (hs.2 d hdc).trans hoy, hwy, fun v' hv' hk' => ?_⟩
          rcases up.new er.nd y _ hv' with ⟨rfl, _⟩ | ⟨_, hy⟩
          · exact absurd rfl hyx
          · exact hvy v' hy hk'
      · rcases up.new er.nd y w hy with ⟨rfl, rfl⟩ | ⟨_, hy⟩
        · exact er.nm y _ hw0
        · exact er.nm y w hy
    rcases hk with hk | hk
    · exact wpAny_storeName_cell er.kind hk hc ⟨o, ho, hw⟩ fun h' hv' hs => step h' hv' hs
    · unfold storeName
      simp only [hk, er.kind]
      exact wpAny_bind (wpAny_cellOf hc (wpAny_cellSet ⟨o, ho, hw⟩ fun h' hv' hs => step h' hv' hs))
theorem WS_assign {x : Str} {p pos : Pos} {e : Expr} {Q : Fl → Loc → AH → Prop} (h : WE C A env e ρ σ (fun v σ1 => ∃ ρ', Up x (some v) ρ ρ' ∧ Q .next ρ' σ1) E)
    (hs : isCompE e = false := by rfl) : WS C A env (.Assign [.Name x p] e pos) ρ σ Q E := by
  refine ⟨?_⟩
  intro ad s hr er
  refine wpAny_Assign_Name (wpAny_mono (h.run ad s hr er) ?_ fun _ _ x => x) (swaps_not hs)
  rintro a s1 ⟨ad1, σ1, va, n1, r1, ρ', up, h1⟩
  exact store_name n1.hr (er.next n1) up r1 fun s' n2 e2 => ⟨ad1, σ1, ρ', .next, n1.weak.trans n2, e2, rfl, h1⟩
end
end Mine

-- part Aw3
set_option autoImplicit false
set_option linter.unusedVariables false
namespace Mine
open PySem PyProof.Rows

abbrev mkFd (name qual : Str) (params : Arguments) (body : List Stmt) (scope : Scope) (dV kV doc pm : Value) (an : Option Addr) (cdv ct : Value) : FuncData :=
  { name, qualname := qual, params, body := .stmts body, scope, globals := mainGlobals, closure := [], defaults := dV, kwdefaults := kV, doc, pyModule := pm, annotations := an, code := cdv, closureTuple := ct, builtins := builtinsNs }

/-- the frame of a def's call -/
noncomputable def dEnv (qual : Str) (scope : Scope) (L a : Addr) (cd : Value) : Env :=
  { scope := scope, locals := L, globals := mainGlobals, cells := cellsFrom (L + 1) scope.names [], qual := qual ++ ".<locals>.", func := some a, code := cd, frame := some L, builtins := builtinsNs }

section
variable {kindOf : Str → Option NameKind}
theorem bindL_not {x : Str} : ∀ (binds : List (Str × Value)) (m : Str → Option Value), x ∉ binds.map (·.1) → bindL kindOf binds m x = m x
  | [], _, _ => rfl
  | (n, v) :: r, m, h => by
    simp only [List.map_cons, List.mem_cons, not_or] at h
    unfold bindL
    rw [bindL_not r _ h.2]
    split
    · simp [h.1]
    · rfl
theorem bindL_mem {x : Str} {u : Value} (hk : kindOf x = some .local) : ∀ (binds : List (Str × Value)) (m : Str → Option Value), (binds.map (·.1)).Nodup → (x, u) ∈ binds → bindL kindOf binds m x = some u
  | [], _, _, h => by cases h
  | (n, v) :: r, m, nd, h => by
    simp only [List.map_cons, List.nodup_cons] at nd
    unfold bindL
    rcases List.mem_cons.mp h with e | h
    · cases e
      rw [bindL_not r _ nd.1]
      simp [hk]
    · exact bindL_mem hk r _ nd.2 h
theorem bindC_not {x : Str} : ∀ (binds : List (Str × Value)) (m : Str → Option Value), x ∉ binds.map (·.1) → bindC kindOf binds m x = m x
  | [], _, _ => rfl
  | (n, v) :: r, m, h => by
    simp only [List.map_cons, List.mem_cons, not_or] at h
    unfold bindC
    rw [bindC_not r _ h.2]
    split
    · rfl
    · simp [h.1]
theorem bindC_mem {x : Str} {u : Value} (hk : kindOf x ≠ some .local) : ∀ (binds : List (Str × Value)) (m : Str → Option Value), (binds.map (·.1)).Nodup → (x, u) ∈ binds → bindC kindOf binds m x = some u
  | [], _, _, h => by cases h
  | (n, v) :: r, m, nd, h => by
    simp only [List.map_cons, List.nodup_cons] at nd
    unfold bindC
    rcases List.mem_cons.mp h with e | h
    · cases e
      rw [bindC_not r _ nd.1]
      simp [hk]
    · exact bindC_mem hk r _ nd.2 h
end

theorem lookup_mem {α β : Type} [BEq α] [LawfulBEq α] {x : α} {c : β} : ∀ {l : List (α × β)}, l.lookup x = some c → (x, c) ∈ l
  | [], h => by simp at h
  | (y, d) :: r, h => by
    simp only [List.lookup_cons] at h
    split at h
    · rename_i e; have := eq_of_beq e; subst this; cases h; exact .head _
    · exact .tail _ (lookup_mem h)
theorem mem_lookup {α β : Type} [BEq α] [LawfulBEq α] {x : α} {c : β} : ∀ {l : List (α × β)}, (l.map (·.1)).Nodup → (x, c) ∈ l → l.lookup x = some c
  | [], _, h => by cases h
  | (y, d) :: r, nd, h => by
    simp only [List.map_cons, List.nodup_cons] at nd
    rcases List.mem_cons.mp h with e | h'
    · cases e; simp
    · have hne : (x == y) = false := by
        cases hb : x == y with
        | false => rfl
        | true => have e := eq_of_beq hb; rw [← e] at nd; exact absurd (List.mem_map.mpr ⟨_, h', rfl⟩) nd.1
      simp only [List.lookup_cons, hne]
      exact mem_lookup nd.2 h'
theorem lookup_isSome {α β : Type} [BEq α] [LawfulBEq α] {x : α} : ∀ {l : List (α × β)}, (l.lookup x).isSome = true ↔ x ∈ l.map (·.1)
  | [] => by simp
  | (y, d) :: r => by
    simp only [List.lookup_cons, List.map_cons, List.mem_cons]
    cases hb : x == y with
    | true => have := eq_of_beq hb; simp [this]
    | false =>
      have hne : x ≠ y := by intro e; subst e; simp at hb
      simp only [hne, false_or]
      exact lookup_isSome
theorem apart_inj {l : List (Str × Addr)} (h : l.Pairwise fun x y => x.2 ≠ y.2) : ∀ {x y : Str} {c : Addr}, (x, c) ∈ l → (y, c) ∈ l → x = y := by
  induction h with
  | nil => intro x y c h; cases h
  | cons h1 _ ih =>
    intro x y c h2 h3
    rcases List.mem_cons.mp h2 with e | h4 <;> rcases List.mem_cons.mp h3 with e' | h5
    · rw [← e] at e'; cases e'; rfl
    · subst e; exact absurd rfl (h1 (y, c) h5)
    · subst e'; exact absurd rfl (h1 (x, c) h4)
    · exact ih h4 h5

theorem HR.lt {C : Cx} {ad : List Addr} {σ : AH} {h : Heap} (hr : HR C ad σ h) {a : Addr} (ha : a ∈ ad) : a < h.objs.size := by
  obtain ⟨i, hi⟩ := List.getElem?_of_mem ha
  have hi' := (List.getElem?_eq_some_iff.mp hi).1
  have : i < σ.length := by rw [← hr.len]; exact hi'
  obtain ⟨ob, h1, _⟩ := hr.obj i σ[i] a (by simp [this]) hi
  exact Heap.lt_size h1
theorem HR.fresh {C : Cx} {ad : List Addr} {σ : AH} {h : Heap} (hr : HR C ad σ h) {a : Addr} (ha : h.objs.size ≤ a) : C.G.get? a = none ∧ a ∉ ad := by
  constructor
  · cases e : C.G.get? a with
    | none => rfl
    | some o => exact absurd (Heap.lt_size (hr.keep a o e)) (Nat.not_lt.mpr ha)
  · intro hm; exact absurd (hr.lt hm) (Nat.not_lt.mpr ha)
theorem HR.freshLow {C : Cx} {ad : List Addr} {σ : AH} {h : Heap} (hr : HR C ad σ h) {a : Addr} (ha : h.objs.size ≤ a) : a ≠ sysModules := by
  have hl : sysModules < h.objs.size := let ⟨_, hn, _⟩ := hr.ok.lim.keeps hr.keep; Nat.lt_trans (by decide) hn.lt
  rintro rfl
  exact absurd hl (Nat.not_lt.mpr ha)
theorem HR.keeps {C : Cx} {ad : List Addr} {σ : AH} {h h' : Heap} (hr : HR C ad σ h) (k : ∀ b o, h.get? b = some o → h'.get? b = some o) : HR C ad σ h' :=
  ⟨hr.ok, fun b o e => k b o (hr.keep b o e), hr.len, hr.nd, hr.off, hr.low, fun i o a h1 h2 => let ⟨ob, h3, h4⟩ := hr.obj i o a h1 h2; ⟨ob, k _ _ h3, h4⟩⟩

noncomputable def retV : Fl → V
  | .ret v => v
  | _ => .none

/-- the raise of a def's body, led through its frame's end -/
noncomputable def EL (C : Cx) (A : Around) (env : Env) (E : EX) : EX := fun e s' => wpAny (model C.prog C.w) (A.deeper env) (leaving env e) (fun _ s'' => E e s'') E s'

theorem zip_mem {pn : List Str} {vs : List V} {xs : List Value} {ad : List Addr} (rv : RVs ad vs xs) : ∀ {x : Str} {v : V}, (x, some v) ∈ pn.zip (vs.map some) → ∃ u, (x, u) ∈ pn.zip xs ∧ RV ad v u := by
  induction rv generalizing pn with
  | nil => intro x v h; simp at h
  | cons r _ ih =>
    intro x v h
    cases pn with
    | nil => simp at h
    | cons p pn =>
      simp only [List.map_cons, List.zip_cons_cons, List.mem_cons] at h
      rcases h with e | h
      · cases e; exact ⟨_, .head _, r⟩
      · obtain ⟨u, h1, h2⟩ := ih h; exact ⟨u, .tail _ h1, h2⟩
theorem zip_names {pn : List Str} {β : Type} {xs : List β} (h : pn.length = xs.length) : (pn.zip xs).map (·.1) = pn := by
  induction pn generalizing xs with
  | nil => simp
  | cons p pn ih => cases xs with
    | nil => simp at h
    | cons x xs => simp only [List.length_cons, Nat.add_right_cancel_iff] at h; simp [ih h]

section
variable {C : Cx} {A : Around} {σ : AH} {E : EX}
theorem HR.wg {l : List (Str × Value)} {ad : List Addr} {h : Heap} (hr : HR C ad σ h) (hl : ∀ x v, (x, v) ∈ l → C.mg x = some v ∨ (C.mg x = none ∧ C.mb x = some v)) : HR (C.wg l) ad σ h :=
  ⟨⟨hr.ok.gob, hr.ok.g, hr.ok.b, hl, hr.ok.lim⟩, hr.keep, hr.len, hr.nd, hr.off, hr.low, hr.obj⟩
theorem HR.gw {l : List (Str × Value)} {ad : List Addr} {h : Heap} (hr : HR (C.wg l) ad σ h) (ok : C.Ok) : HR C ad σ h := ⟨ok, hr.keep, hr.len, hr.nd, hr.off, hr.low, hr.obj⟩
/-- what is known of an env's names -/
noncomputable def Kn (env : Env) (ns : List (Str × NameKind)) : Prop := ∀ x k, ns.lookup x = some k → env.kindOf x = some k
structure WCc (C : Cx) (A : Around) (f : Value) (vs : List V) (σ : AH) (Q : V → AH → Prop) (E : EX) : Prop where
  run : ∀ ad s xs, HR C ad σ s.heap → RVs ad vs xs → codeAny (model C.prog C.w) A (.call f ⟨xs, []⟩) (fun r s' => match r with | .ok (.ret v) => PE C ad s Q v s' | .ok _ => False | .error e => E e s') s
theorem WCc.toWC {f : Value} {vs : List V} {Q : V → AH → Prop} (h : WCc C A f vs σ Q E) : WC C A f vs σ Q E := ⟨fun ad s xs hr rv => wpAny_call (h.run ad s xs hr rv)⟩
/-- a def entered -/
theorem def_entry {f : Addr} {o : Obj} {name qual : Str} {params : Arguments} {body : List Stmt} {scope : Scope} {dV kV doc pm cdv ct : Value} {an : Option Addr} {pn ln : List Str} {gl : List (Str × Value)} {vs dv : List V} {ds : List Value}
    (ho : C.G.get? f = some o) (hd : o.data = .func (mkFd name qual params body scope dV kV doc pm an cdv ct)) (hcd : C.G.CodeRec cdv qual) (hroom : A.depth < recursionLimit)
    (hds : RVs [] dv ds) (hlen : pn.length = vs.length + dv.length) (hgl : ∀ x v, (x, v) ∈ gl → C.mg x = some v ∨ (C.mg x = none ∧ C.mb x = some v))
    (hbind : ∀ (s : Shared) (xs : List Value), (∀ b o, C.G.get? b = some o → s.heap.get? b = some o) → xs.length = vs.length → BindsTo s (mkFd name qual params body scope dV kV doc pm an cdv ct) ⟨xs, []⟩ (pn.zip (xs ++ ds)))
    (hnd : (pn ++ ln).Nodup) (hcn : ((cellsFrom 0 scope.names []).map (·.1)).Nodup)
    (hkd : ((pn ++ ln).all fun x => nmOk x && (scope.names.lookup x == some .local || (scope.names.lookup x == some .cell && ((cellsFrom 0 scope.names []).lookup x).isSome))) = true)
    (hgk : (gl.all fun p => nmOk p.1 && scope.names.lookup p.1 == some .globalImplicit) = true)
    {ad : List Addr} {s : Shared} {xs : List Value} {R : Result → Shared → Prop} (hr : HR C ad σ s.heap) (rv : RVs ad vs xs)
    (h : ∀ env s1, Kn env scope.names → env.frame = some env.locals → (∀ b o, s.heap.get? b = some o → s1.heap.get? b = some o) → s.heap.objs.size ≤ s1.heap.objs.size → (∃ h1 tk, s1 = { s with heap := h1, toks := tk }) → (∀ a ∈ fa env, s.heap.objs.size ≤ a) →
      HR (C.wg gl) ad σ s1.heap → ER (C.wg gl) env (pn.zip ((vs ++ dv).map some) ++ ln.map fun x => (x, none)) ad s1.heap →
      wpAny (model C.prog C.w) (A.deeper env) (execs body env) (fun f s' => R (.ok (.ret (match f with | .ret v => v | _ => .none))) s') (fun e s' => wpAny (model C.prog C.w) (A.deeper env) (leaving env e) (fun _ s'' => R (.error e) s'') (fun e' s'' => R (.error e') s'') s') s1)
    (hco : scope.isCoroutine = false := by rfl) (hgen : scope.isGenerator = false := by rfl) (hk : scope.kind = .function := by rfl) : codeAny (model C.prog C.w) A (.call (.ref f) ⟨xs, []⟩) R s := by
  have hxl : xs.length = vs.length := rv.length.symm
  refine (codeAny_call_function (body := body) hroom (hr.keep f o ho) hd hco hgen rfl (hcd.keeps hr.keep) (hbind s xs hr.keep hxl _ _ _ _ ?_))
  have hbn : ((pn.zip (xs ++ ds)).map (·.1)) = pn := zip_names (by rw [List.length_append, hxl, hlen, hds.length])
  have rvall : RVs ad (vs ++ dv) (xs ++ ds) := by
    have h0 : RVs ad dv ds := by have := hds.mono (nw := ad); simpa using this
    clear hbind h hlen hxl hbn
    induction rv with
    | nil => exact h0
    | cons a _ ih => exact .cons a ih
  have hpn : pn.Nodup := (List.nodup_append.mp hnd).1
  have hkd0 : ∀ x ∈ pn ++ ln, nmOk x = true ∧ (scope.names.lookup x = some .local ∨ (scope.names.lookup x = some .cell ∧ ((cellsFrom 0 scope.names []).lookup x).isSome = true)) := by
    intro x hx
    have := List.all_eq_true.mp hkd x hx
    simpa using this
  have hkd' := fun x hx => (hkd0 x hx).2
  have hcl : ∀ x n, ((cellsFrom 0 scope.names []).lookup x).isSome = true → ((cellsFrom n scope.names []).lookup x).isSome = true := by
    intro x n hx
    rw [lookup_isSome] at hx ⊢
    rw [cellsFrom_names scope.names n 0 [] [] rfl]; exact hx
  refine wpAny_newFunctionEnv_cells hk (fun y hy => ?_) fun env he s1 x => ?_
  · have : y.1 ∈ pn := by rw [← hbn]; exact List.mem_map.mpr ⟨y, hy, rfl⟩
    rcases hkd' y.1 (List.mem_append_left _ this) with e | ⟨e, e'⟩
    · exact .inl e
    · exact .inr ⟨e, hcl _ _ e'⟩
  obtain rfl : env = dEnv qual scope s.heap.objs.size f cdv := he
  have keep := x.toInCall.keep
  obtain ⟨h1, tk, e1⟩ := x.toInCall.same
  have hr1 : HR (C.wg gl) ad σ s1.heap := (hr.keeps keep).wg hgl
  have hsz : s.heap.objs.size ≤ s1.heap.objs.size := Nat.le_of_lt x.toInCall.ns.lt
  have hcn' : ((cellsFrom (s.heap.objs.size + 1) scope.names []).map (·.1)).Nodup := by
    rw [cellsFrom_names scope.names _ 0 [] [] rfl]; exact hcn
  have hfa : ∀ a ∈ fa (dEnv qual scope s.heap.objs.size f cdv), s.heap.objs.size ≤ a := by
    intro a ha
    rcases List.mem_cons.mp ha with e | ha
    · subst e; exact Nat.le_refl _
    · obtain ⟨⟨n, c⟩, hp, rfl⟩ := List.mem_map.mp ha
      exact Nat.le_of_lt (x.above n c hp)
  have er1 : ER (C.wg gl) (dEnv qual scope s.heap.objs.size f cdv) (pn.zip ((vs ++ dv).map some) ++ ln.map fun x => (x, none)) ad s1.heap := by
    have hzn : (pn.zip ((vs ++ dv).map some)).map (·.1) = pn := zip_names (by rw [List.length_map, List.length_append, hlen])
    refine ⟨hk, rfl, rfl, ?_, ?_, ⟨_, x.toInCall.ns, ?_⟩, ?_, ?_, ?_, ?_, ?_, ?_, ?_⟩
    · rw [List.map_append, hzn, List.map_map]
      have : (ln.map ((fun p : Str × Option V => p.1) ∘ fun x => (x, none))) = ln := List.map_id _
      rw [this]; exact hnd
    · intro y v hy
      have hm : y ∈ pn ++ ln := by
        rcases List.mem_append.mp hy with hy | hy
        · exact List.mem_append_left _ (by rw [← hzn]; exact List.mem_map.mpr ⟨_, hy, rfl⟩)
        · obtain ⟨z, hz, e⟩ := List.mem_map.mp hy; cases e; exact List.mem_append_right _ hz
      rcases hkd' y hm with e | ⟨e, e'⟩
      · exact .inl e
      · exact .inr ⟨.inl e, hcl _ _ e'⟩
    · intro y v hy hyk
      have hy' : (y, some v) ∈ pn.zip ((vs ++ dv).map some) := by
        rcases List.mem_append.mp hy with hy | hy
        · exact hy
        · obtain ⟨z, hz, e⟩ := List.mem_map.mp hy; cases e
      obtain ⟨u, hu, ru⟩ := zip_mem rvall hy'
      exact ⟨u, bindL_mem hyk _ _ (by rw [hbn]; exact hpn) hu, ru⟩
    · intro y c hc
      obtain ⟨oc, hoc, hdc⟩ := x.cell y c hc
      refine ⟨oc, _, hoc, hdc, fun v hv hvk => ?_⟩
      have hy' : (y, some v) ∈ pn.zip ((vs ++ dv).map some) := by
        rcases List.mem_append.mp hv with hy | hy
        · exact hy
        · obtain ⟨z, hz, e⟩ := List.mem_map.mp hy; cases e
      obtain ⟨u, hu, ru⟩ := zip_mem rvall hy'
      exact ⟨u, bindC_mem hvk _ _ (by rw [hbn]; exact hpn) hu, ru⟩
    · intro y z c hy hz
      exact apart_inj x.apart (lookup_mem hy) (lookup_mem hz)
    · intro y c hc e
      have := x.above y c (lookup_mem hc)
      rw [e] at this
      exact Nat.lt_irrefl _ this
    · intro a ha; exact hr.fresh (hfa a ha)
    · intro a ha
      rcases List.mem_cons.mp ha with e | ha
      · subst e; exact x.toInCall.ns.lt
      · obtain ⟨⟨n, c⟩, hp, rfl⟩ := List.mem_map.mp ha
        obtain ⟨oc, hoc, _⟩ := x.cell n c (mem_lookup hcn' hp)
        exact Heap.lt_size hoc
    · intro y v hy
      have hm : y ∈ pn ++ ln := by
        rcases List.mem_append.mp hy with hy | hy
        · exact List.mem_append_left _ (by rw [← hzn]; exact List.mem_map.mpr ⟨_, hy, rfl⟩)
        · obtain ⟨z, hz, e⟩ := List.mem_map.mp hy; cases e; exact List.mem_append_right _ hz
      exact (hkd0 y hm).1
    · intro y v hy
      have := List.all_eq_true.mp hgk (y, v) hy
      simp only [Bool.and_eq_true, beq_iff_eq] at this
      exact ⟨this.2, this.1⟩
  refine ⟨(hr.ok.lim.keeps hr.keep).keeps keep, codeAny_func ?_⟩
  exact h (dEnv qual scope s.heap.objs.size f cdv) s1 (fun _ _ e => e) rfl keep hsz ⟨h1, tk, e1⟩ hfa hr1 er1
theorem WCc_defF {f : Addr} {o : Obj} {name qual : Str} {params : Arguments} {body : List Stmt} {scope : Scope} {dV kV doc pm cdv ct : Value} {an : Option Addr} {pn ln : List Str} {gl : List (Str × Value)} {vs dv : List V} {ds : List Value} {Q : V → AH → Prop}
    (ho : C.G.get? f = some o) (hd : o.data = .func (mkFd name qual params body scope dV kV doc pm an cdv ct)) (hcd : C.G.CodeRec cdv qual) (hroom : A.depth < recursionLimit)
    (hds : RVs [] dv ds) (hlen : pn.length = vs.length + dv.length) (hgl : ∀ x v, (x, v) ∈ gl → C.mg x = some v ∨ (C.mg x = none ∧ C.mb x = some v))
    (hbind : ∀ (s : Shared) (xs : List Value), (∀ b o, C.G.get? b = some o → s.heap.get? b = some o) → xs.length = vs.length → BindsTo s (mkFd name qual params body scope dV kV doc pm an cdv ct) ⟨xs, []⟩ (pn.zip (xs ++ ds)))
    (hnd : (pn ++ ln).Nodup) (hcn : ((cellsFrom 0 scope.names []).map (·.1)).Nodup)
    (hkd : ((pn ++ ln).all fun x => nmOk x && (scope.names.lookup x == some .local || (scope.names.lookup x == some .cell && ((cellsFrom 0 scope.names []).lookup x).isSome))) = true)
    (hgk : (gl.all fun p => nmOk p.1 && scope.names.lookup p.1 == some .globalImplicit) = true)
    (h : ∀ env, Kn env scope.names → env.frame = some env.locals → WSs (C.wg gl) (A.deeper env) env body (pn.zip ((vs ++ dv).map some) ++ ln.map fun x => (x, none)) σ (fun fl _ σ' => Q (retV fl) σ') (EL C A env E))
    (hco : scope.isCoroutine = false := by rfl) (hgen : scope.isGenerator = false := by rfl) (hk : scope.kind = .function := by rfl) : WCc C A (.ref f) vs σ Q E := by
  refine ⟨?_⟩
  intro ad s xs hr rv
  refine def_entry ho hd hcd hroom hds hlen hgl hbind hnd hcn hkd hgk hr rv (fun env s1 hkn hfr keep hsz e1 hfa hr1 er1 => ?_) hco hgen hk
  obtain ⟨h1, tk, e1⟩ := e1
  refine wpAny_mono ((h env hkn hfr).run ad s1 hr1 er1) ?_ fun _ _ z => z
  rintro fl s2 ⟨ad2, σ2, ρ2, f2, n2, e2, r2, h2⟩
  obtain ⟨nw, ep, hnw⟩ := n2.pre
  obtain ⟨h3, tk3, e3⟩ := n2.eq
  have nx : Nx C [] ad s ad2 σ2 s2 := ⟨⟨h3, tk3, by rw [e3, e1]⟩, ⟨nw, ep, fun a ha => Nat.le_trans hsz (hnw a ha)⟩, Nat.le_trans hsz n2.size,
    fun b o e nb _ => n2.same b o (keep b o e) nb fun hb => absurd (Heap.lt_size e) (Nat.not_lt.mpr (hfa b hb)), n2.hr.gw hr.ok⟩
  cases f2 with
  | next => cases r2; exact ⟨ad2, σ2, .none, nx, rfl, h2⟩
  | brk => cases r2; exact ⟨ad2, σ2, .none, nx, rfl, h2⟩
  | cont => cases r2; exact ⟨ad2, σ2, .none, nx, rfl, h2⟩
  | ret v => obtain ⟨u, rfl, ru⟩ := r2; exact ⟨ad2, σ2, v, nx, ru, h2⟩
theorem WCc_def {f : Addr} {o : Obj} {name qual : Str} {params : Arguments} {body : List Stmt} {scope : Scope} {dV kV doc pm cdv ct : Value} {an : Option Addr} {pn ln : List Str} {gl : List (Str × Value)} {vs dv : List V} {ds : List Value} {Q : V → AH → Prop}
    (ho : C.G.get? f = some o) (hd : o.data = .func (mkFd name qual params body scope dV kV doc pm an cdv ct)) (hcd : C.G.CodeRec cdv qual) (hroom : A.depth < recursionLimit)
    (hds : RVs [] dv ds) (hlen : pn.length = vs.length + dv.length) (hgl : ∀ x v, (x, v) ∈ gl → C.mg x = some v ∨ (C.mg x = none ∧ C.mb x = some v))
    (hbind : ∀ (s : Shared) (xs : List Value), (∀ b o, C.G.get? b = some o → s.heap.get? b = some o) → xs.length = vs.length → BindsTo s (mkFd name qual params body scope dV kV doc pm an cdv ct) ⟨xs, []⟩ (pn.zip (xs ++ ds)))
    (hnd : (pn ++ ln).Nodup) (hcn : ((cellsFrom 0 scope.names []).map (·.1)).Nodup)
    (hkd : ((pn ++ ln).all fun x => nmOk x && (scope.names.lookup x == some .local || (scope.names.lookup x == some .cell && ((cellsFrom 0 scope.names []).lookup x).isSome))) = true)
    (hgk : (gl.all fun p => nmOk p.1 && scope.names.lookup p.1 == some .globalImplicit) = true)
    (h : ∀ env, Kn env scope.names → WSs (C.wg gl) (A.deeper env) env body (pn.zip ((vs ++ dv).map some) ++ ln.map fun x => (x, none)) σ (fun fl _ σ' => Q (retV fl) σ') (EL C A env E))
    (hco : scope.isCoroutine = false := by rfl) (hgen : scope.isGenerator = false := by rfl) (hk : scope.kind = .function := by rfl) : WCc C A (.ref f) vs σ Q E :=
  WCc_defF ho hd hcd hroom hds hlen hgl hbind hnd hcn hkd hgk (fun env hkn _ => h env hkn) hco hgen hk
theorem WC_def {f : Addr} {o : Obj} {name qual : Str} {params : Arguments} {body : List Stmt} {scope : Scope} {dV kV doc pm cdv ct : Value} {an : Option Addr} {pn ln : List Str} {gl : List (Str × Value)} {vs dv : List V} {ds : List Value} {Q : V → AH → Prop}
    (ho : C.G.get? f = some o) (hd : o.data = .func (mkFd name qual params body scope dV kV doc pm an cdv ct)) (hcd : C.G.CodeRec cdv qual) (hroom : A.depth < recursionLimit)
    (hds : RVs [] dv ds) (hlen : pn.length = vs.length + dv.length) (hgl : ∀ x v, (x, v) ∈ gl → C.mg x = some v ∨ (C.mg x = none ∧ C.mb x = some v))
    (hbind : ∀ (s : Shared) (xs : List Value), (∀ b o, C.G.get? b = some o → s.heap.get? b = some o) → xs.length = vs.length → BindsTo s (mkFd name qual params body scope dV kV doc pm an cdv ct) ⟨xs, []⟩ (pn.zip (xs ++ ds)))
    (hnd : (pn ++ ln).Nodup) (hcn : ((cellsFrom 0 scope.names []).map (·.1)).Nodup)
    (hkd : ((pn ++ ln).all fun x => nmOk x && (scope.names.lookup x == some .local || (scope.names.lookup x == some .cell && ((cellsFrom 0 scope.names []).lookup x).isSome))) = true)
    (hgk : (gl.all fun p => nmOk p.1 && scope.names.lookup p.1 == some .globalImplicit) = true)
    (h : ∀ env, Kn env scope.names → WSs (C.wg gl) (A.deeper env) env body (pn.zip ((vs ++ dv).map some) ++ ln.map fun x => (x, none)) σ (fun fl _ σ' => Q (retV fl) σ') (EL C A env E))
    (hco : scope.isCoroutine = false := by rfl) (hgen : scope.isGenerator = false := by rfl) (hk : scope.kind = .function := by rfl) : WC C A (.ref f) vs σ Q E :=
  (WCc_def ho hd hcd hroom hds hlen hgl hbind hnd hcn hkd hgk h hco hgen hk).toWC
end
end Mine

-- part Aw4
set_option autoImplicit false
set_option linter.unusedVariables false
namespace Mine
open PySem PyProof.Rows

/-- an iterator at I that hands out P 0 .. P (n - 1), as long as the abstract heap keeps Cd -/
structure Wk (C : Cx) (A : Around) (ad0 : List Addr) (I : Addr) (n : Nat) (P : Nat → V) (Cd : AH → Prop) (St : Nat → Heap → Prop) : Prop where
  own : ∀ i h h', St i h → h'.get? I = h.get? I → St i h'
  ex : ∀ i h, St i h → ∃ o, h.get? I = some o
  item : ∀ i ad σ (s : Shared) (Q : Option Value → Shared → Prop) (E : EX), i < n → (∃ nw, ad = ad0 ++ nw) → HR C ad σ s.heap → Cd σ → St i s.heap →
    (∀ u h' tk, RV ad (P i) u → St (i + 1) h' → Heap.SameBut I s.heap h' → Q (some u) { s with heap := h', toks := tk }) → wpAny (model C.prog C.w) A (pyNext (.ref I)) Q E s
  done : ∀ ad σ (s : Shared) (Q : Option Value → Shared → Prop) (E : EX), (∃ nw, ad = ad0 ++ nw) → HR C ad σ s.heap → Cd σ → St n s.heap →
    (∀ h' tk, (∀ b o, b ≠ I → s.heap.get? b = some o → h'.get? b = some o) → Q none { s with heap := h', toks := tk }) → wpAny (model C.prog C.w) A (pyNext (.ref I)) Q E s
  self : ∀ i (s : Shared) (Q : Value → Shared → Prop) (E : EX), St i s.heap → Q (.ref I) s → wpAny (model C.prog C.w) A (pyIter (.ref I)) Q E s
  tup : ∀ i (s : Shared) (t : Expr) (u : Value) (Q : Unit → Shared → Prop) (E : EX), St i s.heap → Q () s → wpAny (model C.prog C.w) A (letOwnedTupleGo t (.ref I) u) Q E s

/-- a value that may be walked -/
structure Itb (C : Cx) (A : Around) (v : V) (σ : AH) (n : Nat) (P : Nat → V) (Cd : AH → Prop) (E : EX) : Prop where
  run : ∀ ad (s : Shared) x, HR C ad σ s.heap → RV ad v x → wpAny (model C.prog C.w) A (pyIter x)
    (fun it s1 => ∃ I St, it = .ref I ∧ Wk C A ad I n P Cd St ∧ St 0 s1.heap ∧ s.heap.objs.size ≤ I ∧ Nx C [] ad s ad σ s1) E s

structure LoopPost (Inv : Loc → AH → Prop) (Q : Fl → Loc → AH → Prop) (fl : Fl) (ρ : Loc) (σ : AH) : Prop where
  run : match fl with
    | .next => Inv ρ σ
    | .cont => Inv ρ σ
    | .brk => Q .next ρ σ
    | .ret v => Q (.ret v) ρ σ
theorem LoopPost_next {Inv : Loc → AH → Prop} {Q : Fl → Loc → AH → Prop} {ρ : Loc} {σ : AH} (h : Inv ρ σ) : LoopPost Inv Q .next ρ σ := ⟨h⟩
/-- a raise within a loop -/
noncomputable def ELoop (C : Cx) (A : Around) (env : Env) (E : EX) : EX := notedBy (model C.prog C.w) A env fun e s' => cameBackBy (model C.prog C.w) A env E e s'

/-- storing a value to a target -/
structure WAs (C : Cx) (A : Around) (env : Env) (t : Expr) (v : V) (ρ : Loc) (σ : AH) (Q : Loc → AH → Prop) (E : EX) : Prop where
  run : ∀ ad (s : Shared) u, HR C ad σ s.heap → ER C env ρ ad s.heap → RV ad v u →
    wpAny (model C.prog C.w) A (assign t env u) (fun _ s' => ∃ ad' σ' ρ', Nx C (fa env) ad s ad' σ' s' ∧ ER C env ρ' ad' s'.heap ∧ Q ρ' σ') E s

section
variable {C : Cx} {A : Around} {env : Env} {ρ : Loc} {σ : AH} {E : EX}
theorem WAs_name {x : Str} {p : Pos} {v : V} {Q : Loc → AH → Prop} {ρ' : Loc} (up : Up x (some v) ρ ρ') (h : Q ρ' σ) : WAs C A env (.Name x p) v ρ σ Q E := by
  refine ⟨?_⟩
  intro ad s u hr er rv
  exact wpAny_assign_Name (store_name hr er up rv fun s' n e => ⟨ad, σ, ρ', n, e, h⟩)

theorem HR.same {ad : List Addr} {h h' : Heap} (hr : HR C ad σ h) (k : ∀ b o, C.G.get? b = some o ∨ b ∈ ad → h.get? b = some o → h'.get? b = some o) : HR C ad σ h' :=
  ⟨hr.ok, fun b o e => k b o (.inl e) (hr.keep b o e), hr.len, hr.nd, hr.off, hr.low, fun i o a h1 h2 => let ⟨ob, h3, h4⟩ := hr.obj i o a h1 h2; ⟨ob, k _ _ (.inr (List.mem_of_getElem? h2)) h3, h4⟩⟩

/-- a step that changes but the iterator and grows -/
theorem Nx.iter {ad : List Addr} {s : Shared} {h' : Heap} {tk : Nat} {I : Addr} (hr : HR C ad σ s.heap) (hI : I ∉ ad) (hG : C.G.get? I = none) (hz : s.heap.objs.size ≤ h'.objs.size) (k : ∀ b o, b ≠ I → s.heap.get? b = some o → h'.get? b = some o) :
    Nx C [I] ad s ad σ { s with heap := h', toks := tk } := by
  have ne : ∀ b o, C.G.get? b = some o ∨ b ∈ ad → b ≠ I := by
    rintro b o (e | e) rfl
    · rw [hG] at e; cases e
    · exact hI e
  exact ⟨⟨h', tk, rfl⟩, ⟨[], by simp, by simp⟩, hz, fun b o e _ hc => k b o (by simpa using hc) e, hr.same fun b o h1 h2 => k b o (ne b o h1) h2⟩
theorem ER.iter {ad : List Addr} {s : Shared} {s' : Shared} {I : Addr} (er : ER C env ρ ad s.heap) (n : Nx C [I] ad s ad σ s') (hI : I ∉ fa env) : ER C env ρ ad s'.heap := by
  have keep : ∀ b ∈ fa env, ∀ o, s.heap.get? b = some o → s'.heap.get? b = some o := fun b hb o e => n.same b o e (er.off b hb).2 (by simp; rintro rfl; exact hI hb)
  refine ⟨er.kind, er.glob, er.blt, er.nd, er.kd, ?_, ?_, er.cinj, er.cl, er.off, fun b hb => Nat.lt_of_lt_of_le (er.lt b hb) n.size, er.nm, er.gk⟩
  · obtain ⟨m, hm, h⟩ := er.m
    exact ⟨m, hm.at' fun o e => keep _ (by simp [fa]) o e, h⟩
  · intro x c hc
    obtain ⟨o, w, h1, h2, h3⟩ := er.cell x c hc
    exact ⟨o, w, keep c (mem_cells hc) o h1, h2, h3⟩
theorem Nx.wider {ch ch' ad ad1 : List Addr} {σ1 : AH} {s s1 : Shared} (n : Nx C ch ad s ad1 σ1 s1) (h : ∀ b ∈ ch, b ∈ ch') : Nx C ch' ad s ad1 σ1 s1 :=
  ⟨n.eq, n.pre, n.size, fun b o e hb hc => n.same b o e hb fun hx => hc (h b hx), n.hr⟩

/-- an expression's value, made an iterator -/
structure WItr (C : Cx) (A : Around) (env : Env) (iter : Expr) (ρ : Loc) (σ : AH) (K : Nat → (Nat → V) → (AH → Prop) → AH → Prop) (E : EX) : Prop where
  run : ∀ ad (s : Shared), HR C ad σ s.heap → ER C env ρ ad s.heap → wpAny (model C.prog C.w) A (eval iter env) (fun x s1 => wpAny (model C.prog C.w) A (pyIter x) (fun it s2 =>
    ∃ ad' σ' n P Cd I St, it = .ref I ∧ Wk C A ad' I n P Cd St ∧ St 0 s2.heap ∧ s.heap.objs.size ≤ I ∧ I ∉ ad' ∧ Nx C [] ad s ad' σ' s2 ∧ K n P Cd σ') E s1) E s
theorem WItr_of {iter : Expr} {K : Nat → (Nat → V) → (AH → Prop) → AH → Prop} (h : WE C A env iter ρ σ (fun v σ1 => ∃ n P Cd, Itb C A v σ1 n P Cd E ∧ K n P Cd σ1) E) : WItr C A env iter ρ σ K E := by
  refine ⟨?_⟩
  intro ad s hr er
  refine wpAny_mono (h.run ad s hr er) ?_ fun _ _ x => x
  rintro x s1 ⟨ad1, σ1, v, n1, r1, n, P, Cd, itb, hk⟩
  refine wpAny_mono (itb.run ad1 s1 x n1.hr r1) ?_ fun _ _ x => x
  rintro it s2 ⟨I, St, rfl, wk, st0, hI, n2⟩
  exact ⟨ad1, σ1, n, P, Cd, I, St, rfl, wk, st0, Nat.le_trans n1.size hI, (n1.hr.fresh hI).2, n1.trans n2, hk⟩
theorem Nx.drop1 {ch ad ad1 : List Addr} {σ1 : AH} {s0 s s1 : Shared} {I : Addr} {ad0 : List Addr} {σ0 : AH} (n0 : Nx C [] ad0 s0 ad σ0 s) (hI : s0.heap.objs.size ≤ I) (n : Nx C (I :: ch) ad s ad1 σ1 s1) : Nx C ch ad0 s0 ad1 σ1 s1 := by
  obtain ⟨h1, t1, e1⟩ := n0.eq
  obtain ⟨h2, t2, e2⟩ := n.eq
  obtain ⟨nw0, p0, q0⟩ := n0.pre
  obtain ⟨nw, p, q⟩ := n.pre
  refine ⟨⟨h2, t2, by rw [e2, e1]⟩, ⟨nw0 ++ nw, by rw [p, p0, List.append_assoc], fun a ha => ?_⟩, Nat.le_trans n0.size n.size, fun b o e hb hc => ?_, n.hr⟩
  · rcases List.mem_append.mp ha with ha | ha
    · exact q0 a ha
    · exact Nat.le_trans n0.size (q a ha)
  · refine n.same b o (n0.same b o e hb (by simp)) ?_ ?_
    · rw [p0]
      intro hm
      rcases List.mem_append.mp hm with hm | hm
      · exact hb hm
      · exact absurd (Heap.lt_size e) (Nat.not_lt.mpr (q0 b hm))
    · simp only [List.mem_cons, not_or]
      exact ⟨fun e' => absurd (Heap.lt_size e) (Nat.not_lt.mpr (e' ▸ hI)), hc⟩

theorem WS_for {target iter : Expr} {body : List Stmt} {pos : Pos} {Q : Fl → Loc → AH → Prop}
    (h : WItr C A env iter ρ σ (fun n P Cd σ1 => ∃ Inv : Nat → Loc → AH → Prop, Inv 0 ρ σ1 ∧
      (∀ i ρ' σ', i < n → Inv i ρ' σ' → Cd σ' ∧ WAs C A env target (P i) ρ' σ' (fun ρ2 σ2 => WSs C A env body ρ2 σ2 (LoopPost (Inv (i + 1)) Q) (ELoop C A env E)) (ELoop C A env E)) ∧
      (∀ ρ' σ', Inv n ρ' σ' → Cd σ' ∧ Q .next ρ' σ')) E)
    (hs : isSetE iter = false := by rfl) : WS C A env (.For target iter body [] pos) ρ σ Q E := by
  refine ⟨?_⟩
  intro ad s hr er
  refine wpAny_For (wpAny_mono (h.run ad s hr er) ?_ fun _ _ x => x) (folded_not hs)
  intro x s1 hx
  refine wpAny_mono hx ?_ fun _ _ x => x
  rintro it s2 ⟨ad1, σ1, n, P, Cd, I, St, rfl, wk, st0, hI, hIad, n2, Inv, inv0, turn, fin⟩
  have er2 := er.next n2
  have hIfa : I ∉ fa env := fun hm => absurd (er.lt I hm) (Nat.not_lt.mpr hI)
  have hIG : C.G.get? I = none := (hr.fresh hI).1
  refine codeAny_forLoop_any (fun k s3 => ∃ i ad3 σ3 ρ3, k = n - i ∧ i ≤ n ∧ Nx C (I :: fa env) ad1 s2 ad3 σ3 s3 ∧ ER C env ρ3 ad3 s3.heap ∧ St i s3.heap ∧ I ∉ ad3 ∧ Inv i ρ3 σ3) ?_ n
    ⟨0, ad1, σ1, ρ, rfl, Nat.zero_le _, Nx.refl n2.hr, er2, st0, hIad, inv0⟩
  rintro k s3 ⟨i, ad3, σ3, ρ3, rfl, hi, n3, er3, st3, hI3, inv3⟩
  by_cases hlt : i < n
  · obtain ⟨cd, tb⟩ := turn i ρ3 σ3 hlt inv3
    refine wk.item i ad3 σ3 s3 _ _ hlt (let ⟨nw, p, _⟩ := n3.pre; ⟨nw, p⟩) n3.hr cd st3 fun u h' tk ru st' hsb => ?_
    have n4 : Nx C [I] ad3 s3 ad3 σ3 { s3 with heap := h', toks := tk } := Nx.iter n3.hr hI3 hIG (Nat.le_of_eq hsb.1.symm) hsb.extBut
    have er4 := er3.iter n4 hIfa
    refine wk.tup (i + 1) _ _ _ _ _ st' ?_
    refine wpAny_mono (tb.run ad3 _ u n4.hr er4 ru) ?_ fun _ _ x => x
    rintro _ s5 ⟨ad5, σ5, ρ5, n5, er5, wb⟩
    refine wpAny_mono (wb.run ad5 s5 n5.hr er5) ?_ fun _ _ x => x
    rintro f s6 ⟨ad6, σ6, ρ6, fl, n6, er6, rf, ⟨hq⟩⟩
    have n56 := n5.trans n6
    have n46 : Nx C (I :: fa env) ad3 s3 ad6 σ6 s6 := (n4.wider (by simp)).trans (n56.wider fun b hb => List.mem_cons_of_mem _ hb)
    have n36 := n3.trans n46
    obtain ⟨oI, hoI⟩ := wk.ex _ _ st'
    have hI6 : I ∉ ad6 := by
      obtain ⟨nw, p, q⟩ := n56.pre
      rw [p]
      intro hm
      rcases List.mem_append.mp hm with hm | hm
      · exact hI3 hm
      · exact absurd (Heap.lt_size hoI) (Nat.not_lt.mpr (q I hm))
    have st6 : St (i + 1) s6.heap := wk.own _ _ _ st' ((n56.same I oI hoI hI3 hIfa).trans hoI.symm)
    have back : Nx C (fa env) ad s ad6 σ6 s6 := Nx.drop1 n2 hI n36
    cases fl with
    | next => cases rf; exact ⟨n - (i + 1), by omega, i + 1, ad6, σ6, ρ6, rfl, hlt, n36, er6, st6, hI6, hq⟩
    | cont => cases rf; exact ⟨n - (i + 1), by omega, i + 1, ad6, σ6, ρ6, rfl, hlt, n36, er6, st6, hI6, hq⟩
    | brk => cases rf; exact ⟨ad6, σ6, ρ6, .next, back, er6, rfl, hq⟩
    | ret v => obtain ⟨u', rfl, ru'⟩ := rf; exact ⟨ad6, σ6, ρ6, .ret v, back, er6, ⟨u', rfl, ru'⟩, hq⟩
  · obtain rfl : i = n := by omega
    obtain ⟨cd, hq⟩ := fin ρ3 σ3 inv3
    refine wpAny_sz (wk.done ad3 σ3 s3 _ _ (let ⟨nw, p, _⟩ := n3.pre; ⟨nw, p⟩) n3.hr cd st3 fun h' tk hk hz => ?_)
    have n4 : Nx C [I] ad3 s3 ad3 σ3 { s3 with heap := h', toks := tk } := Nx.iter n3.hr hI3 hIG hz hk
    have er4 := er3.iter n4 hIfa
    exact wpAny_execs_nil ⟨ad3, σ3, ρ3, .next, Nx.drop1 n2 hI (n3.trans (n4.wider (by simp))), er4, rfl, hq⟩
end
end Mine

-- part Aw5
set_option autoImplicit false
set_option linter.unusedVariables false
namespace Mine
open PySem PyProof.Rows

noncomputable def ObjAt (C : Cx) (σ : AH) (v : V) (o : O) : Prop := match v with
  | .ref j => σ[j]? = some o
  | .k (.ref a) => (a, o) ∈ C.gob
  | _ => False

section
variable {C : Cx} {A : Around} {env : Env} {ρ : Loc} {σ : AH} {E : EX}
theorem ObjAt.list {v : V} {xs : List V} {ad : List Addr} {h : Heap} {x : Value} (b : ObjAt C σ v (.list xs)) (hr : HR C ad σ h) (rv : RV ad v x) : ∃ a vs, x = .ref a ∧ h.IsList a vs ∧ RVs ad xs vs.toList := by
  cases v with
  | ref j =>
    obtain ⟨a, h1, h2⟩ := rv
    obtain ⟨ob, h3, vs, n, e2, h4⟩ := hr.obj j _ a b h1
    subst e2
    exact ⟨a, vs, h2, ⟨_, h3, rfl, n, rfl⟩, h4⟩
  | k v =>
    cases v with
    | ref a =>
      obtain ⟨vs, h1, h2⟩ := (hr.ok.gob a _ b).keeps hr.keep
      have h3 := h2.mono (nw := ad)
      exact ⟨a, vs, rv, h1, by simpa using h3⟩
    | _ => exact b.elim
  | _ => exact b.elim
theorem ObjAt.tup {v : V} {xs : List V} {ad : List Addr} {h : Heap} {x : Value} (b : ObjAt C σ v (.tuple xs)) (hr : HR C ad σ h) (rv : RV ad v x) : ∃ a vs, x = .ref a ∧ h.IsTuple a vs ∧ RVs ad xs vs.toList := by
  cases v with
  | ref j =>
    obtain ⟨a, h1, h2⟩ := rv
    obtain ⟨ob, h3, vs, n, e2, h4⟩ := hr.obj j _ a b h1
    subst e2
    exact ⟨a, vs, h2, ⟨_, h3, rfl, n, rfl⟩, h4⟩
  | k v =>
    cases v with
    | ref a =>
      obtain ⟨vs, h1, h2⟩ := (hr.ok.gob a _ b).keeps hr.keep
      have h3 := h2.mono (nw := ad)
      exact ⟨a, vs, rv, h1, by simpa using h3⟩
    | _ => exact b.elim
  | _ => exact b.elim

/-- a new object that the abstract heap does not bear -/
theorem Nx.push {ad : List Addr} {s : Shared} (o : Obj) (hr : HR C ad σ s.heap) : Nx C [] ad s ad σ { s with heap := s.heap.push o } :=
  ⟨⟨_, s.toks, rfl⟩, ⟨[], by simp, by simp⟩, by simp [Heap.push], fun b ob e _ _ => Heap.get?_push_of_some _ e, hr.keeps fun b ob e => Heap.get?_push_of_some _ e⟩
theorem RVs.getD {ad : List Addr} {xs : List V} {vs : List Value} (h : RVs ad xs vs) {i : Nat} (hi : i < xs.length) : ∃ u, vs[i]? = some u ∧ RV ad (xs.getD i .none) u := by
  obtain ⟨u, h1, h2⟩ := h.get (i := i) (a := xs[i]) (by simp [hi])
  exact ⟨u, h1, by simpa [List.getD, hi] using h2⟩

theorem notOwned {s : Shared} {t : Expr} {I : Addr} {u : Value} {o : Obj} {M : Model} {Q : Unit → Shared → Prop} (ho : s.heap.get? I = some o) (hc : (match o.cls, o.data with
    | .type n, .fields vs => !(["enumerate", "zip", "dict_itemiterator", "dict_reverseitemiterator", "odict_iterator", "itertools.zip_longest", "itertools.pairwise"].contains n)
    | _, _ => true) = true) (h : Q () s) : wpAny M A (letOwnedTupleGo t (.ref I) u) Q E s := by
  unfold letOwnedTupleGo
  split
  · cases u <;> try exact wpAny_pure h
    refine wpAny_bind (wpAny_load ho ?_)
    split
    · rename_i n vs e1 e2
      rw [e1, e2] at hc
      simp only [Bool.not_eq_true'] at hc
      rw [hc]; exact wpAny_pure h
    · exact wpAny_pure h
  · cases u <;> try exact wpAny_pure h
    refine wpAny_bind (wpAny_load ho ?_)
    split
    · rename_i n vs e1 e2
      rw [e1, e2] at hc
      simp only [Bool.not_eq_true'] at hc
      rw [hc]; exact wpAny_pure h
    · exact wpAny_pure h
  · exact wpAny_pure h

theorem Itb_list {v : V} {xs : List V} (hA : A.handled = none) (b : ObjAt C σ v (.list xs)) : Itb C A v σ xs.length (fun i => xs.getD i .none) (fun σ' => ObjAt C σ' v (.list xs)) E := by
  refine ⟨?_⟩
  intro ad s x hr rv
  obtain ⟨a, vs, rfl, hl, rvs⟩ := b.list hr rv
  refine wpAny_pyIter_list hl ⟨s.heap.objs.size, fun i h => h.IsListIter s.heap.objs.size a i, rfl, ?_, ?_, Nat.le_refl _, Nx.push _ hr⟩
  · refine ⟨?_, ?_, ?_, ?_, fun i s Q E st hQ => wpAny_pyIter_listiter st hQ, ?_⟩
    · rintro i h h' ⟨o, ho, r⟩ e
      exact ⟨o, by rw [e]; exact ho, r⟩
    · rintro i h ⟨o, ho, r⟩; exact ⟨o, ho⟩
    · rintro i ad' σ' s' Q E' hi ⟨nw, rfl⟩ hr' b' st hQ
      obtain ⟨a', vs', e, hl', rvs'⟩ := b'.list hr' (rv.mono (nw := nw))
      cases e
      obtain ⟨u, hu, ru⟩ := rvs'.getD hi
      exact wpAny_pyNext_list_item st hl' (x := u) (by rw [← Array.getElem?_toList]; exact hu) fun h' hit hs => hQ u h' s'.toks ru hit hs
    · rintro ad' σ' s' Q E' ⟨nw, rfl⟩ hr' b' st hQ
      obtain ⟨a', vs', e, hl', rvs'⟩ := b'.list hr' (rv.mono (nw := nw))
      cases e
      refine wpAny_pyNext_list_end hA st hl' ?_ fun h' he => ?_
      · rw [← Array.getElem?_toList]; exact List.getElem?_eq_none (by rw [← rvs'.length]; exact Nat.le_refl _)
      · exact hQ h' s'.toks fun b o hb e => he b o hb e
    · rintro i s' t u Q E' ⟨o, ho, hc, hd⟩ hq
      exact notOwned ho (by rw [hc, hd]; rfl) hq
  · exact ⟨_, Heap.get?_push_size _ rfl, rfl, rfl⟩
end
end Mine

-- part Aw6
set_option autoImplicit false
set_option linter.unusedVariables false
namespace Mine
open PySem PyProof.Rows

section
variable {C : Cx} {A : Around} {env : Env} {ρ : Loc} {σ : AH} {E : EX} {Q : V → AH → Prop}

theorem PE.here {ad : List Addr} {s : Shared} {v : V} {u : Value} (hr : HR C ad σ s.heap) (rv : RV ad v u) (h : Q v σ) : PE C ad s Q u s := ⟨ad, σ, v, Nx.refl hr, rv, h⟩
theorem PE.tok {ad : List Addr} {s : Shared} {v : V} {u : Value} (t : Nat) (hr : HR C ad σ s.heap) (rv : RV ad v u) (h : Q v σ) : PE C ad s Q u { s with toks := t } := ⟨ad, σ, v, Nx.tok t hr, rv, h⟩
theorem Nx.keeps {ad : List Addr} {s : Shared} {h' : Heap} {tk : Nat} (hz : s.heap.objs.size ≤ h'.objs.size) (hr : HR C ad σ s.heap) (k : ∀ b o, s.heap.get? b = some o → h'.get? b = some o) : Nx C [] ad s ad σ { s with heap := h', toks := tk } :=
  ⟨⟨h', tk, rfl⟩, ⟨[], by simp, by simp⟩, hz, fun b o e _ _ => k b o e, hr.keeps k⟩

/- ints -/
theorem add_ii {i j : Int} (h : Q (.int (i + j)) σ) : WOp2 C A (binaryOp .Add) (.int i) (.int j) σ Q E := by
  refine ⟨?_⟩
  rintro ad s x y hr ⟨t, rfl⟩ ⟨u, rfl⟩
  exact wpAny_add_int (PE.tok (v := .int (i + j)) _ hr ⟨_, rfl⟩ h)
theorem sub_ii {i j : Int} (h : Q (.int (i - j)) σ) : WOp2 C A (binaryOp .Sub) (.int i) (.int j) σ Q E := by
  refine ⟨?_⟩
  rintro ad s x y hr ⟨t, rfl⟩ ⟨u, rfl⟩
  exact sub_int' (PE.tok (v := .int (i - j)) _ hr ⟨_, rfl⟩ h)
theorem mul_ii {i j : Int} (hm : IntMulOk i j) (h : Q (.int (i * j)) σ) : WOp2 C A (binaryOp .Mult) (.int i) (.int j) σ Q E := by
  refine ⟨?_⟩
  rintro ad s x y hr ⟨t, rfl⟩ ⟨u, rfl⟩
  exact mul_int (PE.tok (v := .int (i * j)) _ hr ⟨_, rfl⟩ h) hm
theorem mod_ii {i j : Int} (hj : j ≠ 0) (h : Q (.int (i.fmod j)) σ) : WOp2 C A (binaryOp .Mod) (.int i) (.int j) σ Q E := by
  refine ⟨?_⟩
  rintro ad s x y hr ⟨t, rfl⟩ ⟨u, rfl⟩
  refine mod_int' hj ?_
  exact (PE.tok (v := .int (i.fmod j)) _ hr ⟨_, rfl⟩ h)
theorem neg_i {i : Int} (h : Q (.int (-i)) σ) : WOp1 C A (unaryOp .USub) (.int i) σ Q E := by
  refine ⟨?_⟩
  rintro ad s x hr ⟨t, rfl⟩
  exact neg_int (PE.tok (v := .int (-i)) _ hr ⟨_, rfl⟩ h)
theorem lt_ii {i j : Int} (h : Q (.bool (decide (i < j))) σ) : WOp2 C A (compareOp .Lt) (.int i) (.int j) σ Q E := by
  refine ⟨?_⟩
  rintro ad s x y hr ⟨t, rfl⟩ ⟨u, rfl⟩
  exact lt_int (PE.here (v := .bool _) hr rfl h)
theorem gt_ii {i j : Int} (h : Q (.bool (decide (j < i))) σ) : WOp2 C A (compareOp .Gt) (.int i) (.int j) σ Q E := by
  refine ⟨?_⟩
  rintro ad s x y hr ⟨t, rfl⟩ ⟨u, rfl⟩
  exact gt_int (PE.here (v := .bool _) hr rfl h)
theorem le_ii {i j : Int} (h : Q (.bool (decide (i ≤ j))) σ) : WOp2 C A (compareOp .LtE) (.int i) (.int j) σ Q E := by
  refine ⟨?_⟩
  rintro ad s x y hr ⟨t, rfl⟩ ⟨u, rfl⟩
  exact le_int (PE.here (v := .bool _) hr rfl h)
theorem ge_ii {i j : Int} (h : Q (.bool (decide (j ≤ i))) σ) : WOp2 C A (compareOp .GtE) (.int i) (.int j) σ Q E := by
  refine ⟨?_⟩
  rintro ad s x y hr ⟨t, rfl⟩ ⟨u, rfl⟩
  exact ge_int (PE.here (v := .bool _) hr rfl h)
theorem eq_ii {i j : Int} (h : Q (.bool (i == j)) σ) : WOp2 C A (compareOp .Eq) (.int i) (.int j) σ Q E := by
  refine ⟨?_⟩
  rintro ad s x y hr ⟨t, rfl⟩ ⟨u, rfl⟩
  exact eq_int (PE.here (v := .bool _) hr rfl h)
theorem ne_ii {i j : Int} (h : Q (.bool (i != j)) σ) : WOp2 C A (compareOp .NotEq) (.int i) (.int j) σ Q E := by
  refine ⟨?_⟩
  rintro ad s x y hr ⟨t, rfl⟩ ⟨u, rfl⟩
  exact ne_int (PE.here (v := .bool _) hr rfl h)
theorem eq_ss {i j : Str} (h : Q (.bool (i == j)) σ) : WOp2 C A (compareOp .Eq) (.str i) (.str j) σ Q E := by
  refine ⟨?_⟩
  rintro ad s x y hr ⟨t, rfl⟩ ⟨u, rfl⟩
  exact eq_str (PE.here (v := .bool _) hr rfl h)
/- deep data -/
mutual
inductive Rd (C : Cx) (σ : AH) : V → PyData → Prop
  | none : Rd C σ .none .none
  | bool {b : Bool} : Rd C σ (.bool b) (.bool b)
  | int {i : Int} : Rd C σ (.int i) (.int i)
  | str {s : Str} : Rd C σ (.str s) (.str s)
  | list {v : V} {xs : List V} {ds : List PyData} : ObjAt C σ v (.list xs) → RdAll C σ xs ds → Rd C σ v (.list ds)
  | tuple {v : V} {xs : List V} {ds : List PyData} : ObjAt C σ v (.tuple xs) → RdAll C σ xs ds → Rd C σ v (.tuple ds)
inductive RdAll (C : Cx) (σ : AH) : List V → List PyData → Prop
  | nil : RdAll C σ [] []
  | cons {v : V} {d : PyData} {vs : List V} {ds : List PyData} : Rd C σ v d → RdAll C σ vs ds → RdAll C σ (v :: vs) (d :: ds)
end
mutual
theorem Rd.reads {ad : List Addr} {h : Heap} (hr : HR C ad σ h) : ∀ {v : V} {d : PyData}, Rd C σ v d → ∀ {x : Value}, RV ad v x → ∃ as, Reads h x d as
  | _, _, .none, _, rfl => ⟨_, .none⟩
  | _, _, .bool, _, rfl => ⟨_, .bool _⟩
  | _, _, .int, _, ⟨_, e⟩ => by subst e; exact ⟨_, .int _ _⟩
  | _, _, .str, _, ⟨_, e⟩ => by subst e; exact ⟨_, .str _ _⟩
  | _, _, .list b r, x, rv => by
    obtain ⟨a, vs, e, ⟨o, ho, hc, n, hd⟩, rvs⟩ := b.list hr rv
    obtain ⟨as, ra⟩ := RdAll.reads hr r rvs
    subst e
    exact ⟨_, .list ho hc hd ra⟩
  | _, _, .tuple b r, x, rv => by
    obtain ⟨a, vs, e, ⟨o, ho, hc, n, hd⟩, rvs⟩ := b.tup hr rv
    obtain ⟨as, ra⟩ := RdAll.reads hr r rvs
    subst e
    exact ⟨_, .tuple ho hc hd ra⟩
theorem RdAll.reads {ad : List Addr} {h : Heap} (hr : HR C ad σ h) : ∀ {vs : List V} {ds : List PyData}, RdAll C σ vs ds → ∀ {xs : List Value}, RVs ad vs xs → ∃ as, ReadsAll h xs ds as
  | _, _, .nil, _, .nil => ⟨_, .nil⟩
  | _, _, .cons r rs, _, .cons v vs => by
    obtain ⟨as, ra⟩ := Rd.reads hr r v
    obtain ⟨bs, rb⟩ := RdAll.reads hr rs vs
    exact ⟨_, .cons ra rb⟩
end
theorem ne_dd {a b : V} {da db : PyData} (ra : Rd C σ a da) (rb : Rd C σ b db) (ha : SeqAt.shaped da = true) (hb : SeqAt.shaped db = true) (hu : A.units + 64 < cLine) (h : Q (.bool (!PyData.eqv da db)) σ) : WOp2 C A (compareOp .NotEq) a b σ Q E := by
  refine ⟨?_⟩
  intro ad s x y hr rx ry
  obtain ⟨as, r1⟩ := ra.reads hr rx
  obtain ⟨bs, r2⟩ := rb.reads hr ry
  exact ne_dataH r1 r2 ha hb hu (PE.here (v := .bool _) hr rfl h)

/- new objects -/
theorem HR.alloc {ad : List Addr} {h : Heap} {o : O} {ob : Obj} (hr : HR C ad σ h) (ro : RO C.w.params ad o ob) : HR C (ad ++ [h.objs.size]) (σ ++ [o]) (h.push ob) := by
  have hf := ro.notFreed
  obtain ⟨hG, hn⟩ := hr.fresh (Nat.le_refl _)
  refine ⟨hr.ok, fun b x e => Heap.get?_push_of_some _ (hr.keep b x e), by simp [hr.len], ?_, ?_, fun a ha => (List.mem_append.mp ha).elim (hr.low a) (fun hm => by rw [List.mem_singleton.mp hm]; exact hr.freshLow (Nat.le_refl _)), ?_⟩
  · refine List.nodup_append.mpr ⟨hr.nd, by simp, ?_⟩
    intro a ha b hb e
    simp only [List.mem_singleton] at hb
    subst hb; subst e; exact hn ha
  · intro a ha
    rcases List.mem_append.mp ha with ha | ha
    · exact hr.off a ha
    · simp only [List.mem_singleton] at ha; subst ha; exact hG
  · intro i x a h1 h2
    by_cases hi : i < σ.length
    · rw [List.getElem?_append_left hi] at h1
      rw [List.getElem?_append_left (by rw [hr.len]; exact hi)] at h2
      obtain ⟨ob', h3, h4⟩ := hr.obj i x a h1 h2
      exact ⟨ob', Heap.get?_push_of_some _ h3, h4.mono⟩
    · have hi' : i = σ.length := by
        have := (List.getElem?_eq_some_iff.mp h1).1
        simp at this; omega
      subst hi'
      rw [List.getElem?_append_right (Nat.le_refl _)] at h1
      rw [List.getElem?_append_right (by rw [hr.len]; exact Nat.le_refl _)] at h2
      simp [hr.len] at h1 h2
      subst h1; subst h2
      exact ⟨ob, Heap.get?_push_size _ hf, ro.mono⟩
theorem Nx.alloc {ad : List Addr} {s : Shared} {o : O} {ob : Obj} (hr : HR C ad σ s.heap) (ro : RO C.w.params ad o ob) : Nx C [] ad s (ad ++ [s.heap.objs.size]) (σ ++ [o]) { s with heap := s.heap.push ob } :=
  ⟨⟨_, s.toks, rfl⟩, ⟨[s.heap.objs.size], rfl, by simp⟩, by simp [Heap.push], fun b x e _ _ => Heap.get?_push_of_some _ e, hr.alloc ro⟩
theorem RV.last {ad : List Addr} {a : Addr} : ∀ {n : Nat}, n = ad.length → RV (ad ++ [a]) (.ref n) (.ref a) := by rintro n rfl; exact ⟨a, by simp, rfl⟩

theorem WE_List {es : List Expr} {pos : Pos} (h : WL C A env es ρ σ (fun vs σ1 => vs.length ≤ sizeLine ∧ Q (.ref σ1.length) (σ1 ++ [.list vs])) E) : WE C A env (.List es pos) ρ σ Q E := by
  refine ⟨?_⟩
  intro ad s hr er
  refine List_ (wpAny_mono (h.run ad s pos hr er) ?_ fun _ _ x => x)
  rintro us s1 ⟨ad1, σ1, vs, n1, r1, hz, h1⟩
  refine wpAny_newObj_type ?_ (by show us.toArray.size ≤ sizeLine; rw [List.size_toArray, ← r1.length]; exact hz)
  exact PE.trans n1 ⟨_, _, .ref σ1.length, Nx.alloc n1.hr (o := .list vs) ⟨_, _, rfl, by simpa using r1⟩, RV.last n1.hr.len.symm, h1⟩
theorem WE_Tuple {es : List Expr} {k : Nat} {pos : Pos} (h : WL C A env es ρ σ (fun vs σ1 => vs.length ≤ sizeLine ∧ Q (.ref σ1.length) (σ1 ++ [.tuple vs])) E) : WE C A env (.Tuple es k pos) ρ σ Q E := by
  refine ⟨?_⟩
  intro ad s hr er
  refine Tuple_ (wpAny_mono (h.run ad s pos hr er) ?_ fun _ _ x => x)
  rintro us s1 ⟨ad1, σ1, vs, n1, r1, hz, h1⟩
  refine wpAny_newObj_type ?_ (by show us.toArray.size ≤ sizeLine; rw [List.size_toArray, ← r1.length]; exact hz)
  exact PE.trans n1 ⟨_, _, .ref σ1.length, Nx.alloc n1.hr (o := .tuple vs) ⟨_, _, rfl, by simpa using r1⟩, RV.last n1.hr.len.symm, h1⟩

/- items -/
noncomputable def isSliceE : Expr → Bool
  | .Slice .. => true
  | _ => false
theorem slice_not {e : Expr} (h : isSliceE e = false) (o i : Value) : subscripted e false o i = operate [o, i] (getItem o i) := by
  cases e <;> first | rfl | cases h
structure WSub (C : Cx) (A : Around) (value slice : Expr) (a b : V) (σ : AH) (Q : V → AH → Prop) (E : EX) : Prop where
  run : ∀ ad s x y, HR C ad σ s.heap → RV ad a x → RV ad b y → wpAny (model C.prog C.w) A (subscriptTail value slice x y) (PE C ad s Q) E s
theorem WE_Sub {value slice : Expr} {pos : Pos} (h : WE C A env value ρ σ (fun a σ1 => WE C A env slice ρ σ1 (fun b σ2 => WSub C A value slice a b σ2 Q E) E) E) : WE C A env (.Subscript value slice pos) ρ σ Q E := by
  refine ⟨?_⟩
  intro ad s hr er
  refine Subscript_ (wpAny_mono (h.run ad s hr er) ?_ fun _ _ x => x)
  rintro a s1 ⟨ad1, σ1, va, n1, r1, h1⟩
  refine wpAny_mono (h1.run ad1 s1 n1.hr (er.next n1)) ?_ fun _ _ x => x
  rintro b s2 ⟨ad2, σ2, vb, n2, r2, h2⟩
  exact wpAny_mono (h2.run ad2 s2 a b n2.hr (n2.rv r1) r2) (fun u s' p => PE.trans (n1.trans n2) p) fun _ _ x => x
theorem item_list {value slice : Expr} {v : V} {xs : List V} {k : Int} {x : V} (b : ObjAt C σ v (.list xs)) (h0 : 0 ≤ k) (hf : k < 2 ^ 63) (hx : xs[k.toNat]? = some x) (h : Q x σ)
    (hs : isSliceE slice = false := by rfl) : WSub C A value slice v (.int k) σ Q E := by
  refine ⟨?_⟩
  rintro ad s y z hr rv ⟨t, rfl⟩
  obtain ⟨a, vs, rfl, hl, rvs⟩ := b.list hr rv
  obtain ⟨u, hu, ru⟩ := rvs.get hx
  exact tail_any hl.typeIs slot_list_getitem.lookup (wpAny_getItem_list hl h0 hf (by rw [← Array.getElem?_toList]; exact hu) (PE.here hr ru h)) (slice_not hs _ _)
theorem item_tuple {value slice : Expr} {v : V} {xs : List V} {k : Int} {x : V} (b : ObjAt C σ v (.tuple xs)) (h0 : 0 ≤ k) (hf : k < 2 ^ 63) (hx : xs[k.toNat]? = some x) (h : Q x σ)
    (hs : isSliceE slice = false := by rfl) : WSub C A value slice v (.int k) σ Q E := by
  refine ⟨?_⟩
  rintro ad s y z hr rv ⟨t, rfl⟩
  obtain ⟨a, vs, rfl, hl, rvs⟩ := b.tup hr rv
  obtain ⟨u, hu, ru⟩ := rvs.get hx
  obtain ⟨o, ho, hc, n, hd⟩ := id hl
  have hlen : k.toNat < vs.size := by
    have := (List.getElem?_eq_some_iff.mp hu).1
    simpa using this
  exact tail_any ⟨o, ho, hc⟩ F.slot_tuple_getitem.lookup (getItem_tuple ⟨o, ho, hc, n, hd⟩ (by omega) hf (j := k.toNat) (by simp [seqIndex?]; omega) (by rw [← Array.getElem?_toList]; exact hu) (PE.here hr ru h)) (slice_not hs _ _)
end
end Mine

-- part Aw7
set_option autoImplicit false
set_option linter.unusedVariables false
namespace Mine
open PySem PySem.W PyProof.Rows

noncomputable def Callable (C : Cx) (v : Value) : Prop := ∀ h, (∀ b o, C.G.get? b = some o → h.get? b = some o) → ∃ k, (k = Keeper.frame ∨ k = Keeper.machine ∨ k = Keeper.boundFrame) ∧ Looks (model C.prog C.w) h (keeperOf v) k
theorem callable_builtin {C : Cx} {id : String} : Callable C (.builtin id) := fun h _ => ⟨.machine, .inr (.inl rfl), Looks.of_pure rfl⟩
theorem callable_type {C : Cx} {id : String} : Callable C (.type id) := fun h _ => ⟨.machine, .inr (.inl rfl), Looks.of_pure rfl⟩
theorem callable_K {C : Cx} {K : Frag} {v : Value} (X : K.In C.G) (hk : keepIn K v = true) : Callable C v := fun h k => keeps_K hk h (X.keeps k)

structure WM (C : Cx) (A : Around) (v : V) (name : Str) (σ : AH) (K : Value → List V → AH → Prop) (E : EX) : Prop where
  run : ∀ ad (s : Shared) x pl, HR C ad σ s.heap → RV ad v x → wpAny (model C.prog C.w) A (getMethod x name pl) (fun fx s' => ∃ ad' σ' first, Nx C [] ad s ad' σ' s' ∧ RVs ad' first fx.2 ∧ K fx.1 first σ') E s

section
variable {C : Cx} {A : Around} {env : Env} {ρ : Loc} {σ : AH} {E : EX} {Q : V → AH → Prop}

theorem RVs.append {ad : List Addr} {a b : List V} {x y : List Value} (h : RVs ad a x) (h' : RVs ad b y) : RVs ad (a ++ b) (x ++ y) := by
  induction h with
  | nil => exact h'
  | cons r _ ih => exact .cons r ih

/-- no starred argument -/
noncomputable def noStar : List Expr → Bool
  | [] => true
  | .Starred _ _ :: _ => false
  | _ :: r => noStar r
theorem noStar_cons {e : Expr} {r : List Expr} (env : Env) (h : noStar (e :: r) = true) : starEach (e :: r) env = (false, eval e env) :: starEach r env ∧ noStar r = true := by
  cases e <;> first | exact ⟨rfl, h⟩ | cases h
theorem noStar_any {pos : Pos} : ∀ {es : List Expr} (env : Env), noStar es = true → (backTo pos (starEach es env)).any (·.1) = false
  | [], _, _ => rfl
  | e :: r, env, h => by
    obtain ⟨h1, h2⟩ := noStar_cons env h
    rw [h1]
    show (false || (backTo pos (starEach r env)).any (·.1)) = false
    rw [noStar_any env h2]; rfl

theorem callWith_gen {f : Value} {fs : List Value} {args : List Expr} {pos : Pos} {s : Shared} {P : Value → Shared → Prop} (hc : Callable C f) (hns : noStar args = true)
    (go : wpAny (model C.prog C.w) A (spliced (backTo pos (starEach args env))) (fun vs s' => (∀ b o, C.G.get? b = some o → s'.heap.get? b = some o) ∧ wpAny (model C.prog C.w) A (call f (fs ++ vs) []) P E s') E s) :
    wpAny (model C.prog C.w) A (callWith pos f fs (backTo pos (starEach args env)) []) P E s := by
  refine callWith_of (P := fun h => ∀ b o, C.G.get? b = some o → h.get? b = some o) (by rw [noStar_any env hns]; rfl) (fun h k => hc h k) ?_
  cases args with
  | nil =>
    have go' : wpAny (model C.prog C.w) A (spliced []) (fun vs s' => (∀ b o, C.G.get? b = some o → s'.heap.get? b = some o) ∧ wpAny (model C.prog C.w) A (call f (fs ++ vs) []) P E s') E s := go
    show wpAny (model C.prog C.w) A (evalArgs f true [] []) _ E s
    unfold evalArgs
    show wpAny _ A (spliced [] >>= _) _ E s
    refine wpAny_bind (wpAny_mono go' (fun vs s' h' => wpAny_bind (wpAny_pure ?_)) fun _ _ x => x)
    refine wpAny_holding ?_
    exact wpAny_bind (wpAny_pure (wpAny_pure h'))
  | cons e r =>
    obtain ⟨h1, h2⟩ := noStar_cons env hns
    rw [h1] at go ⊢
    exact Calls.evalArgs_plain go
theorem callWith_go {f : Value} {first : List V} {fs : List Value} {args : List Expr} {pos : Pos} {ad : List Addr} {s : Shared} (hc : Callable C f) (hns : noStar args = true) (hr : HR C ad σ s.heap) (er : ER C env ρ ad s.heap) (rf : RVs ad first fs)
    (h : WL C A env args ρ σ (fun vs σ2 => WC C A f (first ++ vs) σ2 Q E) E) : wpAny (model C.prog C.w) A (callWith pos f fs (backTo pos (starEach args env)) []) (PE C ad s Q) E s := by
  refine callWith_gen hc hns (wpAny_mono (h.run ad s pos hr er) ?_ fun _ _ x => x)
  rintro us s1 ⟨ad1, σ1, vs, n1, r1, h1⟩
  exact ⟨n1.hr.keep, wpAny_mono (h1.run ad1 s1 _ n1.hr ((n1.rvs rf).append r1)) (fun u s' p => PE.trans n1 p) fun _ _ x => x⟩

theorem WE_call {C : Cx} {l : List (Str × Value)} {id : Str} {p pos : Pos} {args : List Expr} {f : Value} (hx : (id, f) ∈ l) (hc : Callable C f) (h : WL (C.wg l) A env args ρ σ (fun vs σ2 => WC (C.wg l) A f vs σ2 Q E) E) (hns : noStar args = true := by rfl) :
    WE (C.wg l) A env (.Call (.Name id p) args [] pos) ρ σ Q E := by
  refine ⟨?_⟩
  intro ad s hr er
  refine wpAny_Call_Name_kw ?_
  have := (WE_glob (C := C) (A := A) (env := env) (ρ := ρ) (σ := σ) (E := E) (pos := p) (Q := fun v σ1 => v = .k f ∧ σ1 = σ) hx ⟨rfl, rfl⟩).run ad s hr er
  refine wpAny_mono this ?_ fun _ _ x => x
  rintro u s1 ⟨ad1, σ1, v, n1, r1, rfl, rfl⟩
  cases r1
  refine wpAny_mono (callWith_go (first := []) (fs := []) hc hns n1.hr (er.next n1) .nil h) (fun u s' p => PE.trans n1 p) fun _ _ x => x
noncomputable def plainBase : Expr → Bool
  | .Call .. => false
  | _ => true
theorem noStar_all {pos : Pos} : ∀ {es : List Expr} (env : Env), noStar es = true → (backTo pos (starEach es env)).all (!·.1) = true
  | [], _, _ => rfl
  | e :: r, env, h => by
    obtain ⟨h1, h2⟩ := noStar_cons env h
    rw [h1]
    show (true && (backTo pos (starEach r env)).all (!·.1)) = true
    rw [noStar_all env h2]; rfl
theorem meth_eval {o : Expr} {name : Str} {apos pos : Pos} {args : List Expr} {env : Env} (h1 : plainBase o = true) (h2 : noStar args = true) (h3 : Nat.ble args.length 28 = true) (h4 : (apos.endLine == pos.line) = true) :
    ∃ pl, eval (.Call (.Attribute o name apos) args [] pos) env = (do
      let ov ← eval o env
      standAt apos.atName
      let (f, first) ← holding [ov] (getMethod ov name pl)
      callWith pos f first (backTo pos (starEach args env)) (backToKw pos (keywordEach [] env))) := by
  refine ⟨(do return (← importBound o env).getD true), ?_⟩
  rw [arm_eval_Call]
  have e1 : attributeBase o name env (eval o env) = eval o env := by cases o <;> first | rfl | cases h1
  have e2 : methodCallForm (args.length + ([] : List Keyword).length) (backTo pos (starEach args env)) (backToKw pos (keywordEach [] env)) = true := by
    unfold methodCallForm
    rw [noStar_all env h2]
    have := Nat.le_of_ble_eq_true h3
    simp [backToKw, keywordEach]
    omega
  rw [e1]
  unfold methodCall calleeOf methodCallPos
  rw [e2, h4]
  rfl
theorem WE_meth {o : Expr} {name : Str} {apos pos : Pos} {args : List Expr} (h : WE C A env o ρ σ (fun v σ1 => WM C A v name σ1 (fun f first σ2 => Callable C f ∧ WL C A env args ρ σ2 (fun vs σ3 => WC C A f (first ++ vs) σ3 Q E) E) E) E) (h1 : plainBase o = true := by rfl) (hns : noStar args = true := by rfl)
    (h3 : Nat.ble args.length 28 = true := by rfl) (h4 : (apos.endLine == pos.line) = true := by rfl) :
    WE C A env (.Call (.Attribute o name apos) args [] pos) ρ σ Q E := by
  refine ⟨?_⟩
  intro ad s hr er
  obtain ⟨pl, he⟩ := meth_eval (o := o) (name := name) (env := env) h1 hns h3 h4
  refine methodCall_KW (pl := pl) ?_ he
  refine wpAny_mono (h.run ad s hr er) ?_ fun _ _ x => x
  rintro u s1 ⟨ad1, σ1, v, n1, r1, h1⟩
  refine wpAny_mono (h1.run ad1 s1 u pl n1.hr r1) ?_ fun _ _ x => x
  rintro fx s2 ⟨ad2, σ2, first, n2, r2, hc, h2⟩
  exact wpAny_mono (callWith_go hc hns n2.hr ((er.next n1).next n2) r2 h2) (fun u s' p => PE.trans (n1.trans n2) p) fun _ _ x => x

/- the heap's objects changed -/
theorem HR.set {ad : List Addr} {h h' : Heap} {j : Nat} {a : Addr} {o : O} {ob : Obj} (hr : HR C ad σ h) (hj : ad[j]? = some a) (hs : Heap.SameBut a h h') (ho : h'.get? a = some ob) (ro : RO C.w.params ad o ob) : HR C ad (σ.set j o) h' := by
  refine ⟨hr.ok, fun b x e => (hs.2 b ?_).trans (hr.keep b x e), by simp [hr.len], hr.nd, hr.off, hr.low, fun i x b h1 h2 => ?_⟩
  · rintro rfl; rw [hr.off b (List.mem_of_getElem? hj)] at e; cases e
  · by_cases hij : i = j
    · subst hij
      rw [hj] at h2; cases h2
      have hl : i < σ.length := by have := (List.getElem?_eq_some_iff.mp h1).1; simpa using this
      rw [List.getElem?_set_self hl] at h1; cases h1
      exact ⟨ob, ho, ro⟩
    · rw [List.getElem?_set_ne (Ne.symm hij)] at h1
      obtain ⟨ob', h3, h4⟩ := hr.obj i x b h1 h2
      refine ⟨ob', (hs.2 b ?_).trans h3, h4⟩
      rintro rfl
      exact hij ((List.getElem?_inj (List.getElem?_eq_some_iff.mp h2).1 hr.nd).mp (h2.trans hj.symm))
theorem Nx.set {ad : List Addr} {s : Shared} {h' : Heap} {tk : Nat} {j : Nat} {a : Addr} {o : O} {ob : Obj} (hr : HR C ad σ s.heap) (hj : ad[j]? = some a) (hs : Heap.SameBut a s.heap h') (ho : h'.get? a = some ob) (ro : RO C.w.params ad o ob) :
    Nx C [] ad s ad (σ.set j o) { s with heap := h', toks := tk } :=
  ⟨⟨h', tk, rfl⟩, ⟨[], by simp, by simp⟩, Nat.le_of_eq hs.1.symm, fun b x e hb _ => (hs.2 b fun e' => hb (e' ▸ List.mem_of_getElem? hj)).trans e, hr.set hj hs ho ro⟩

/- list.append -/
theorem WM_append {j : Nat} {xs : List V} {K : Value → List V → AH → Prop} (b : σ[j]? = some (.list xs)) (h : K (.builtin "list.append") [.ref j] σ) : WM C A (.ref j) "append" σ K E := by
  refine ⟨?_⟩
  rintro ad s x pl hr ⟨a, ha, rfl⟩
  obtain ⟨ob, h1, vs, n, e2, h2⟩ := hr.obj j _ a b ha
  subst e2
  exact Calls.getMethod_list_append h1 rfl rfl ⟨ad, σ, [.ref j], Nx.refl hr, .cons ⟨a, ha, rfl⟩ .nil, h⟩
theorem WC_append {j : Nat} {xs : List V} {x : V} (b : σ[j]? = some (.list xs)) (hz : xs.length ≤ sizeLine) (h : Q .none (σ.set j (.list (xs ++ [x])))) : WC C A (.builtin "list.append") [.ref j, x] σ Q E := by
  refine ⟨?_⟩
  rintro ad s us hr (_ | ⟨⟨a, ha, rfl⟩, _ | ⟨r2, _ | _⟩⟩)
  obtain ⟨ob, h1, vs, n, e2, rvs⟩ := hr.obj j _ a b ha
  subst e2
  refine wpAny_list_append_plain ⟨n, h1⟩ (fun h' hp hs => ?_) (by rw [← Array.length_toList, ← rvs.length]; exact hz)
  obtain ⟨n', h3⟩ := hp
  exact ⟨ad, _, .none, Nx.set (o := .list (xs ++ [x])) hr ha hs h3 ⟨_, n', rfl, by rw [Array.toList_push]; exact rvs.append (.cons r2 .nil)⟩, rfl, h⟩

/- built-ins -/
theorem WC_len {v : V} {xs : List V} (b : ObjAt C σ v (.list xs)) (hz : (xs.length : Int) < 2 ^ 63) (h : Q (.int xs.length) σ) : WC C A (.builtin "len") [v] σ Q E := by
  refine ⟨?_⟩
  rintro ad s us hr (_ | ⟨rv, _ | _⟩)
  obtain ⟨a, vs, rfl, hl, rvs⟩ := b.list hr rv
  have e : vs.size = xs.length := by rw [← Array.length_toList, ← rvs.length]
  exact Calls.call_len_list hl (by rw [e]; exact hz) (PE.tok (v := .int xs.length) _ hr ⟨_, by rw [e]⟩ h)
theorem WC_min {i j : Int} (hA : A.handled = none) (h : Q (.int (min i j)) σ) : WC C A (.builtin "min") [.int i, .int j] σ Q E := by
  refine ⟨?_⟩
  rintro ad s us hr (_ | ⟨⟨t, rfl⟩, _ | ⟨⟨u, rfl⟩, _ | _⟩⟩)
  refine wpAny_sz (min_two_ints hA fun h' tk hk hz => ⟨ad, σ, .int (min i j), Nx.keeps hz hr hk, ?_, h⟩)
  by_cases hij : j < i
  · rw [if_pos hij]; exact ⟨u, by rw [Int.min_eq_right (Int.le_of_lt hij)]⟩
  · rw [if_neg hij]; exact ⟨t, by rw [Int.min_eq_left (Int.not_lt.mp hij)]⟩
theorem WC_max {i j : Int} (hA : A.handled = none) (h : Q (.int (max i j)) σ) : WC C A (.builtin "max") [.int i, .int j] σ Q E := by
  refine ⟨?_⟩
  rintro ad s us hr (_ | ⟨⟨t, rfl⟩, _ | ⟨⟨u, rfl⟩, _ | _⟩⟩)
  refine wpAny_sz (max_two_ints hA fun h' tk hk hz => ⟨ad, σ, .int (max i j), Nx.keeps hz hr hk, ?_, h⟩)
  by_cases hij : j > i
  · rw [if_pos hij]; exact ⟨u, by rw [Int.max_eq_right (Int.le_of_lt hij)]⟩
  · rw [if_neg hij]; exact ⟨t, by rw [Int.max_eq_left (Int.not_lt.mp hij)]⟩

/- tuples taken apart -/
structure WAsL (C : Cx) (A : Around) (env : Env) (ts : List Expr) (vs : List V) (ρ : Loc) (σ : AH) (Q : Loc → AH → Prop) (E : EX) : Prop where
  run : ∀ ad (s : Shared) us, HR C ad σ s.heap → ER C env ρ ad s.heap → RVs ad vs us →
    wpAny (model C.prog C.w) A (assignInOrder ((assignEach ts env).map (·.2)) us) (fun _ s' => ∃ ad' σ' ρ', Nx C (fa env) ad s ad' σ' s' ∧ ER C env ρ' ad' s'.heap ∧ Q ρ' σ') E s
theorem WAsL_nil {Q : Loc → AH → Prop} (h : Q ρ σ) : WAsL C A env [] [] ρ σ Q E := by
  refine ⟨?_⟩
  rintro ad s us hr er ⟨⟩
  exact wpAny_pure ⟨ad, σ, ρ, Nx.refl hr, er, h⟩
theorem WAsL_cons {t : Expr} {ts : List Expr} {v : V} {vs : List V} {Q : Loc → AH → Prop} (h : WAs C A env t v ρ σ (fun ρ1 σ1 => WAsL C A env ts vs ρ1 σ1 Q E) E)
    (he : starE t = false := by rfl) : WAsL C A env (t :: ts) (v :: vs) ρ σ Q E := by
  refine ⟨?_⟩
  rintro ad s us hr er (_ | ⟨r, rs⟩)
  rw [assign_not he]
  show wpAny _ A (assignInOrder (assign t env :: _) (_ :: _)) _ E s
  unfold assignInOrder
  refine wpAny_bind (wpAny_holding (wpAny_mono (h.run ad s _ hr er r) ?_ fun _ _ x => x))
  rintro _ s1 ⟨ad1, σ1, ρ1, n1, er1, h1⟩
  refine wpAny_mono (h1.run ad1 s1 _ n1.hr er1 (n1.rvs rs)) ?_ fun _ _ x => x
  rintro _ s2 ⟨ad2, σ2, ρ2, n2, er2, h2⟩
  exact ⟨ad2, σ2, ρ2, n1.trans n2, er2, h2⟩
theorem noStar_asg {e : Expr} {r : List Expr} (env : Env) (h : noStar (e :: r) = true) : assignEach (e :: r) env = (false, assign e env) :: assignEach r env ∧ noStar r = true := by
  cases e <;> first | exact ⟨rfl, h⟩ | cases h
theorem noStar_len (env : Env) : ∀ {ts : List Expr}, noStar ts = true → (assignEach ts env).length = ts.length
  | [], _ => rfl
  | e :: r, h => by
    obtain ⟨h1, h2⟩ := noStar_asg env h
    rw [h1, List.length_cons, List.length_cons, noStar_len env h2]
theorem noStar_idx (env : Env) : ∀ {ts : List Expr}, noStar ts = true → (assignEach ts env).findIdx? (·.1) = none
  | [], _ => rfl
  | e :: r, h => by
    obtain ⟨h1, h2⟩ := noStar_asg env h
    rw [h1, List.findIdx?_cons, noStar_idx env h2]; rfl
theorem WAs_tuple {ts : List Expr} {k : Nat} {p : Pos} {v : V} {vs : List V} {Q : Loc → AH → Prop} (hA : A.handled = none) (b : ObjAt C σ v (.tuple vs)) (h : WAsL C A env ts vs ρ σ Q E)
    (hn : ts.length = vs.length := by rfl) (hst : noStar ts = true := by rfl) : WAs C A env (.Tuple ts k p) v ρ σ Q E := by
  refine ⟨?_⟩
  intro ad s u hr er rv
  obtain ⟨a, us, rfl, hl, rvs⟩ := b.tup hr rv
  rw [arm_assign_Tuple]
  refine wpAny_bind (wpAny_standAt ?_)
  unfold unpack
  have e : (assignEach ts env).length = us.size := by rw [noStar_len env hst, hn, ← Array.length_toList, ← rvs.length]
  rw [e, noStar_idx env hst]
  refine wpAny_bind (wpAny_holding (wpAny_sz (wpAny_unpackItems_tuple hA hl fun h' he hz => ?_)))
  have hk : ∀ b o, s.heap.get? b = some o → h'.get? b = some o := fun b o e => he b o (Nat.ne_of_lt (Heap.lt_size e)) e
  have n1 : Nx C [] ad s ad σ { s with heap := h' } := Nx.keeps (tk := s.toks) hz hr hk
  refine wpAny_mono (h.run ad _ _ n1.hr (er.next n1) rvs) ?_ fun _ _ x => x
  rintro _ s2 ⟨ad2, σ2, ρ2, n2, er2, h2⟩
  exact ⟨ad2, σ2, ρ2, n1.weak.trans n2, er2, h2⟩
noncomputable def isTupE : Expr → Bool
  | .Tuple .. => true
  | _ => false
theorem stores_not {ts : List Expr} {k : Nat} {p : Pos} {e : Expr} {env : Env} (h : isTupE e = false) : swappedStores [.Tuple ts k p] e env = pure none := by
  cases e <;> first | rfl | cases h
theorem WS_assign_tuple {ts : List Expr} {k : Nat} {p pos : Pos} {e : Expr} {Q : Fl → Loc → AH → Prop} (h : WE C A env e ρ σ (fun v σ1 => WAs C A env (.Tuple ts k p) v ρ σ1 (fun ρ' σ' => Q .next ρ' σ') E) E)
    (hs : isCompE e = false := by rfl) (hw : isTupE e = false := by rfl) : WS C A env (.Assign [.Tuple ts k p] e pos) ρ σ Q E := by
  refine ⟨?_⟩
  intro ad s hr er
  refine Assign_Tuple (wpAny_mono (h.run ad s hr er) ?_ fun _ _ x => x) (show swapsWith e (some (.Tuple ts k p)) pos.line env = pure false from swaps_not hs) (stores_not hw)
  rintro u s1 ⟨ad1, σ1, v, n1, r1, h1⟩
  refine wpAny_mono (h1.run ad1 s1 u n1.hr (er.next n1) r1) ?_ fun _ _ x => x
  rintro _ s2 ⟨ad2, σ2, ρ2, n2, er2, h2⟩
  exact ⟨ad2, σ2, ρ2, .next, n1.weak.trans n2, er2, rfl, h2⟩
theorem WS_expr {e : Expr} {pos : Pos} {Q : Fl → Loc → AH → Prop} (h : WE C A env e ρ σ (fun v σ1 => Q .next ρ σ1) E) (hs : isCompE e = false := by rfl) : WS C A env (.Expr e pos) ρ σ Q E := by
  refine ⟨?_⟩
  intro ad s hr er
  refine wpAny_Expr_any (wpAny_mono (h.run ad s hr er) ?_ fun _ _ x => x) (by unfold interactive; rw [er.kind]; rfl) (swaps_not hs)
  rintro u s1 ⟨ad1, σ1, v, n1, r1, h1⟩
  exact PS.ofE er n1 (fl := .next) rfl h1
/- ranges -/
theorem rangeWk {I : Addr} {a c : Int} {n : Nat} {ad0 : List Addr} (hA : A.handled = none) : Wk C A ad0 I n (fun i => .int (a + i * c)) (fun _ => True) (fun i h => IsRangeIter h I (a + (i : Nat) * c) ((n : Int) - (i : Nat)) c) := by
  refine ⟨?_, ?_, ?_, ?_, fun i s Q E st hQ => wpAny_pyIter_rangeiter st hQ, ?_⟩
  · intro i h h' st e
    show h'.get? I = _
    rw [e]; exact st
  · intro i h st; exact ⟨_, st⟩
  · intro i ad σ' s Q E' hi _ hr _ st hQ
    refine wpAny_pyNext_range_item st (by omega) fun h' hit' hs' => ?_
    refine hQ _ h' _ ⟨_, rfl⟩ ?_ hs'
    have e1 : a + ((i + 1 : Nat) : Int) * c = a + (i : Int) * c + c := by push_cast; rw [Int.add_mul, Int.one_mul, Int.add_assoc]
    have e2 : (n : Int) - ((i + 1 : Nat) : Int) = (n : Int) - (i : Int) - 1 := by push_cast; omega
    rw [e1, e2]; exact hit'
  · intro ad σ' s Q E' _ hr _ st hQ
    exact wpAny_pyNext_range_end hA st (by omega) fun h' he' => hQ h' s.toks fun b o hb e => he' b o hb e
  · intro i s t u Q E' st hq
    exact notOwned st rfl hq
open Builtin.Range (rangeSize) in
/-- range's arguments -/
noncomputable def rngArgs : List V → Option (Int × Int × Int)
  | [.int b] => some (0, b, 1)
  | [.int a, .int b] => some (a, b, 1)
  | [.int a, .int b, .int c] => some (a, b, c)
  | _ => none
theorem rng_small {a b c : Int} (ha : -(2 ^ 60) ≤ a ∧ a ≤ 2 ^ 60) (hb : -(2 ^ 60) ≤ b ∧ b ≤ 2 ^ 60) (hc : c ≠ 0) (hc' : -(2 ^ 30) < c ∧ c < 2 ^ 30) : Builtin.Range.small a b c = true := by
  have h1 : (0 ≤ Builtin.Range.rangeSize a b c ∧ Builtin.Range.rangeSize a b c ≤ 2 ^ 62) := by
    unfold Builtin.Range.rangeSize
    have d1 : ∀ x y : Int, 0 ≤ x → 0 < y → 0 ≤ x / y ∧ x / y ≤ x := fun x y hx hy => ⟨Int.ediv_nonneg hx (Int.le_of_lt hy), Int.ediv_le_self _ hx⟩
    split
    · split
      · have := d1 (b - a - 1) c (by omega) (by omega); omega
      · omega
    · split
      · have := d1 (a - b - 1) (-c) (by omega) (by omega); omega
      · omega
  unfold Builtin.Range.small Builtin.Range.rangeFitsLong
  simp only [Bool.and_eq_true, decide_eq_true_eq, Bool.or_eq_true, beq_iff_eq]
  refine ⟨⟨⟨⟨by omega, by omega⟩, by omega⟩, by omega⟩, .inr ?_⟩
  split
  · simp only [Bool.and_eq_true, decide_eq_true_eq]; omega
  · simp only [Bool.and_eq_true, decide_eq_true_eq]; omega
theorem WItr_range {C : Cx} {l : List (Str × Value)} {id : Str} {p pos : Pos} {args : List Expr} {K : Nat → (Nat → V) → (AH → Prop) → AH → Prop} (hA : A.handled = none) (hf : (id, Value.type "range") ∈ l)
    (h : WL (C.wg l) A env args ρ σ (fun vs σ1 => ∃ a b c, rngArgs vs = some (a, b, c) ∧ c ≠ 0 ∧ (-(2 ^ 60) ≤ a ∧ a ≤ 2 ^ 60) ∧ (-(2 ^ 60) ≤ b ∧ b ≤ 2 ^ 60) ∧ (-(2 ^ 30) < c ∧ c < 2 ^ 30) ∧ K (Builtin.Range.rangeSize a b c).toNat (fun i => .int (a + i * c)) (fun _ => True) σ1) E)
    (hns : noStar args = true := by rfl) : WItr (C.wg l) A env (.Call (.Name id p) args [] pos) ρ σ K E := by
  refine ⟨?_⟩
  intro ad s hr er
  refine wpAny_Call_Name_kw ?_
  have := (WE_glob (C := C) (A := A) (env := env) (ρ := ρ) (σ := σ) (E := E) (pos := p) (Q := fun v σ1 => v = .k (.type "range") ∧ σ1 = σ) hf ⟨rfl, rfl⟩).run ad s hr er
  refine wpAny_mono this ?_ fun _ _ x => x
  rintro u s1 ⟨ad1, σ1, v, n1, r1, rfl, rfl⟩
  cases r1
  refine callWith_gen (callable_type (C := C.wg l)) hns (wpAny_mono (h.run ad1 s1 pos n1.hr (er.next n1)) ?_ fun _ _ x => x)
  rintro us s2 ⟨ad2, σ2, vs, n2, r2, a, b, c, hv, hc0, ha, hb, hc, hk⟩
  refine ⟨n2.hr.keep, ?_⟩
  have n12 := n1.trans n2
  have sm := rng_small ha hb hc0 hc
  have fin : ∀ (s3 : Shared) (t u v : Tok), s3 = { s2 with heap := s2.heap.push { cls := .type "range", data := .fields #[.int a t, .int b u, .int c v] }, toks := s3.toks } →
      wpAny (model C.prog C.w) A (pyIter (.ref s2.heap.objs.size)) (fun it s2 => ∃ ad' σ' n P Cd I St, it = .ref I ∧ Wk (C.wg l) A ad' I n P Cd St ∧ St 0 s2.heap ∧ s.heap.objs.size ≤ I ∧ I ∉ ad' ∧ Nx (C.wg l) [] ad s ad' σ' s2 ∧ K n P Cd σ') E s3 := by
    intro s3 t u v e3
    have hh : s3.heap = s2.heap.push { cls := .type "range", data := .fields #[.int a t, .int b u, .int c v] } := by rw [e3]
    have n3 : Nx (C.wg l) [] ad2 s2 ad2 σ2 s3 := by rw [e3]; exact Nx.keeps (by simp [Heap.push]) n2.hr fun b o e => Heap.get?_push_of_some _ e
    refine wpAny_pyIter_range (t := t) (u := u) (v := v) (by rw [hh]; exact Heap.get?_push_size _ rfl) sm ?_
    have hsz : s.heap.objs.size ≤ s3.heap.objs.size := Nat.le_trans n12.size n3.size
    have h0 : 0 ≤ Builtin.Range.rangeSize a b c := by
      unfold Builtin.Range.rangeSize
      split
      · split
        · have := Int.ediv_nonneg (a := b - a - 1) (b := c) (by omega) (by omega); omega
        · omega
      · split
        · have := Int.ediv_nonneg (a := a - b - 1) (b := -c) (by omega) (by omega); omega
        · omega
    refine ⟨ad2, σ2, _, _, _, s3.heap.objs.size, _, rfl, rangeWk (a := a) (c := c) (n := (Builtin.Range.rangeSize a b c).toNat) hA, ?_, hsz, (n3.hr.fresh (Nat.le_refl _)).2, (n12.trans n3).trans (Nx.push _ n3.hr), hk⟩
    show (s3.heap.push _).get? _ = _
    rw [Heap.get?_push_size _ rfl]
    have e1 : ((Builtin.Range.rangeSize a b c).toNat : Int) = Builtin.Range.rangeSize a b c := Int.toNat_of_nonneg h0
    simp [e1]
  show wpAny _ A (call (.type "range") us) _ E s2
  have three : (∃ b', vs = [.int b'] ∧ (0, b', 1) = (a, b, c)) ∨ (∃ a' b', vs = [.int a', .int b'] ∧ (a', b', 1) = (a, b, c)) ∨ vs = [.int a, .int b, .int c] := by
    unfold rngArgs at hv
    split at hv
    · exact .inl ⟨_, rfl, Option.some.inj hv⟩
    · exact .inr (.inl ⟨_, _, rfl, Option.some.inj hv⟩)
    · cases hv; exact .inr (.inr rfl)
    · cases hv
  rcases three with ⟨b', rfl, e⟩ | ⟨a', b', rfl, e⟩ | rfl
  · cases e
    rcases r2 with _ | ⟨⟨t, rfl⟩, _ | _⟩
    exact call_range_1 (fin _ _ _ _ rfl)
  · cases e
    rcases r2 with _ | ⟨⟨t, rfl⟩, _ | ⟨⟨t', rfl⟩, _ | _⟩⟩
    exact call_range_2 (fin _ _ _ _ rfl)
  · rcases r2 with _ | ⟨⟨t, rfl⟩, _ | ⟨⟨t', rfl⟩, _ | ⟨⟨t'', rfl⟩, _ | _⟩⟩⟩
    exact call_range_3 hc0 (fin _ _ _ _ rfl) (.inl (PyProof.noPylong_small (by omega)))
end
end Mine

-- part Aw8
set_option autoImplicit false
set_option linter.unusedVariables false
namespace Mine
open PySem PySem.W PyProof.Rows

theorem szAnd {n : Nat} {P : Prop} (h : P) (hn : n ≤ sizeLine := by exact Nat.le_of_ble_eq_true rfl) : n ≤ sizeLine ∧ P := ⟨hn, h⟩
theorem ite_b {b : Bool} {P Q : Prop} (h1 : b = true → P) (h2 : b = false → Q) : if b = true then P else Q := by
  cases b with
  | true => exact h1 rfl
  | false => exact h2 rfl
theorem mul_small {a b : Int} (h1 : -(2 ^ 63) ≤ a) (h2 : a ≤ 2 ^ 63) : IntMulOk a b := IntMulOk.of_left (intBits_le_64 (by omega) (by omega))
theorem mul_small_r {a b : Int} (h1 : -(2 ^ 63) ≤ b) (h2 : b ≤ 2 ^ 63) : IntMulOk a b := IntMulOk.of_right (intBits_le_64 (by omega) (by omega))
theorem RVs.ints {vs : List Value} {ns : List Int} (h : IntsAre vs ns) : RVs [] (ns.map .int) vs := by
  induction h with
  | nil => exact .nil
  | cons => exact .cons ⟨_, rfl⟩ (by assumption)

/-- from a law's call in the abstract to the claim -/
theorem bridge (l : OpenLaw) {C : Cx} {w : World} {s₁ : Shared} {args : List WData} {cl : Str → Option Addr} {mean : ExcName → Option Value} {f a : Addr} (hp : C.prog = l.row.prog) (hw : C.w = w) (hG : C.G = s₁.heap) (ok : C.Ok) (hg : s₁.gens = #[])
    (h : WC C callerA (.ref f) [.k (.ref a)] [] (fun v _ => v = .bool true) (fun _ _ => False)) :
    wpAny (model l.row.prog w) callerA (call (.ref f) [.ref a]) (fun v s' => GoodWG l.row.claim cl mean args s₁ (.ok (.ret v)) s') (fun e s' => GoodWG l.row.claim cl mean args s₁ (.error e) s') s₁ := by
  subst hw
  rw [← hp]
  have hr : HR C [] [] s₁.heap := ⟨ok, (fun b o e => by rw [← hG]; exact e), rfl, List.nodup_nil, (fun _ h => nomatch h), (fun _ h => nomatch h), (fun i o a h => by simp at h)⟩
  refine wpAny_mono (h.run [] s₁ [.ref a] hr (.cons rfl .nil)) ?_ fun _ _ x => x.elim
  rintro u s' ⟨ad', σ', v, n, rv, rfl⟩
  cases rv
  obtain ⟨h', tk, e⟩ := n.eq
  refine GoodW.toG ⟨.inl ⟨.bool true, .bool true, [], rfl, fun cls => rfl, .bool true, ?_, unshared_nil⟩, fun b o e => n.hr.keep b o (by rw [hG]; exact e), by rw [e], by rw [e]; exact hg⟩
  exact postW_of (r := l.row.toRowW) rfl (w_eq_bool (w_res rfl) w_lit) rfl
end Mine

-- part Aw9
set_option autoImplicit false
set_option linter.unusedVariables false
namespace Mine
open PySem PySem.W PyProof.Rows

theorem ite_f {c : Bool} {P Q : Prop} (hc : c = false) (h : Q) : if c = true then P else Q := by rw [if_neg (by rw [hc]; decide)]; exact h

section
variable {C : Cx} {A : Around} {env : Env} {ρ : Loc} {σ : AH} {E : EX} {Q : V → AH → Prop}

theorem fdiv_ii {i j : Int} (hj : j ≠ 0) (h : Q (.int (i.fdiv j)) σ) (hs : j.natAbs < 1073741824 := by first | decide | omega) : WOp2 C A (binaryOp .FloorDiv) (.int i) (.int j) σ Q E := by
  refine ⟨?_⟩
  rintro ad s x y hr ⟨t, rfl⟩ ⟨u, rfl⟩
  exact floordiv_int hj (PE.tok (v := .int (i.fdiv j)) _ hr ⟨_, rfl⟩ h) (.inl (PyProof.noPylong_small hs))
theorem fdiv_lit {i j : Int} (hj : j ≠ 0 ∧ j.natAbs < 1073741824) (h : Q (.int (i.fdiv j)) σ) : WOp2 C A (binaryOp .FloorDiv) (.int i) (.int j) σ Q E := fdiv_ii hj.1 h hj.2
theorem WC_abs {i : Int} (h : Q (.int (if i < 0 then -i else i)) σ) : WC C A (.builtin "abs") [.int i] σ Q E := by
  refine ⟨?_⟩
  rintro ad s us hr (_ | ⟨⟨t, rfl⟩, _ | _⟩)
  exact call_abs_int fun u tk => PE.tok (v := .int _) tk hr ⟨_, rfl⟩ h

end
end Mine

-- part Aw10
set_option autoImplicit false
set_option linter.unusedVariables false
namespace Mine
open PySem PySem.W PyProof.Rows PySem.SeqAt

section
variable {C : Cx} {A : Around} {env : Env} {ρ : Loc} {σ : AH} {E : EX} {Q : V → AH → Prop}

theorem shr_ii {i n : Int} (hn : 0 ≤ n) (h : Q (.int (i.fdiv (2 ^ n.toNat))) σ) : WOp2 C A (binaryOp .RShift) (.int i) (.int n) σ Q E := by
  refine ⟨?_⟩
  rintro ad s x y hr ⟨t, rfl⟩ ⟨u, rfl⟩
  exact rshift_int hn (PE.tok (v := .int (i.fdiv (2 ^ n.toNat))) _ hr ⟨_, rfl⟩ h)

/- in, not in -/
theorem nin_list_dd {a b : V} {da : PyData} {xs : List PyData} (ra : Rd C σ a da) (rb : Rd C σ b (.list xs)) (hb : SeqAt.shaped (PyData.list xs) = true) (ha : SeqAt.shaped da = true) (hu : A.units + 65 < cLine)
    (h : Q (.bool (!xs.any (fun y => PyData.eqv y da))) σ) : WOp2 C A (compareOp .NotIn) a b σ Q E := by
  refine ⟨?_⟩
  intro ad s x y hr rx ry
  obtain ⟨as, r1⟩ := ra.reads hr rx
  obtain ⟨bs, r2⟩ := rb.reads hr ry
  exact notIn_list_reads r2 r1 (canLay_of_shaped hb) (canLay_of_shaped ha) (room_in_shaped ha hu) (PE.here (v := .bool _) hr rfl h)
/- an item of a dict of the top -/
theorem item_gdict {value slice : Expr} {K : Frag} {a : Addr} {es : Array DictEntry} {n : Nat} {x : Str} {v : Value} (X : K.In C.G) (hl : K.lookup a = some ⟨.type "dict", none, .dict es n, #[]⟩) (hk : KeysLit C.w.params es.toList)
    (e : nsIn K a x = some (some v)) (h : Q (.k v) σ) (hs : isSliceE slice = false := by rfl) : WSub C A value slice (.k (.ref a)) (.str x) σ Q E := by
  refine ⟨?_⟩
  rintro ad s y z hr rfl ⟨t, rfl⟩
  have hm := mapOf_K (prog := C.prog) (X.keeps hr.keep) hl hk
  exact tail_any hm.typeIs slot_dict_getitem.lookup (wpAny_getItem_of (strKind_is C.prog C.w x t) hm (find_K hl e) (PE.tok (v := .k v) _ hr rfl h)) (slice_not hs _ _)

/- slices of lists -/
noncomputable def pickV {α : Type} (xs : List α) (lo hi st : Option Int) : List α :=
  (sliceRange (sliceBounds lo hi st xs.length).1 (sliceBounds lo hi st xs.length).2.1 (sliceBounds lo hi st xs.length).2.2).filterMap (xs[·]?)
theorem RVs.none_of {ad : List Addr} {v : List V} {x : List Value} (h : RVs ad v x) {i : Nat} (e : v[i]? = none) : x[i]? = none := by
  rw [List.getElem?_eq_none_iff] at e ⊢
  rw [← h.length]; exact e
theorem RVs.places {ad : List Addr} {v : List V} {x : List Value} (h : RVs ad v x) : ∀ js : List Nat, RVs ad (js.filterMap (v[·]?)) (js.filterMap (x[·]?))
  | [] => .nil
  | j :: js => by
    have ih := h.places js
    cases hn : v[j]? with
    | some n =>
      obtain ⟨u, hv, r⟩ := h.get hn
      simp only [List.filterMap_cons, hn, hv]
      exact .cons r ih
    | none =>
      simp only [List.filterMap_cons, hn, h.none_of hn]
      exact ih
theorem RVs.pick {ad : List Addr} {v : List V} {x : Array Value} (h : RVs ad v x.toList) (lo hi st : Option Int) : RVs ad (pickV v lo hi st) (slicePick x lo hi st).toList := by
  have e : (slicePick x lo hi st).toList = (sliceRange (sliceBounds lo hi st v.length).1 (sliceBounds lo hi st v.length).2.1 (sliceBounds lo hi st v.length).2.2).filterMap (x.toList[·]?) := by
    have := h.length
    simp only [Array.length_toList] at this
    simp [slicePick, this]
  rw [e]
  exact h.places _
theorem exInt {i : Int} {P : Int → Prop} (h : P i) : ∃ j, V.int i = V.int j ∧ P j := ⟨i, rfl, h⟩
theorem ObjAt.new {xs : O} : ∀ {n : Nat}, n = σ.length → ObjAt C (σ ++ [xs]) (.ref n) xs := by rintro n rfl; show (σ ++ [xs])[σ.length]? = _; simp
structure WO (C : Cx) (A : Around) (env : Env) (e : Option Expr) (ρ : Loc) (σ : AH) (Q : Option Int → AH → Prop) (E : EX) : Prop where
  run : ∀ ad (s : Shared), HR C ad σ s.heap → ER C env ρ ad s.heap → wpAny (model C.prog C.w) A (evalPart e env) (fun u s' => ∃ ad' σ' k, Nx C [] ad s ad' σ' s' ∧ IsPart u k ∧ Q k σ') E s
theorem WO_none {Q : Option Int → AH → Prop} (h : Q none σ) : WO C A env none ρ σ Q E := ⟨fun ad s hr er => wpAny_pure ⟨ad, σ, none, Nx.refl hr, .none, h⟩⟩
theorem WO_some {Q : Option Int → AH → Prop} {e : Expr} (h : WE C A env e ρ σ (fun v σ1 => ∃ i, v = .int i ∧ Q (some i) σ1) E) : WO C A env (some e) ρ σ Q E := by
  refine ⟨?_⟩
  intro ad s hr er
  rw [evalPart_some]
  refine wpAny_mono (h.run ad s hr er) ?_ fun _ _ x => x
  rintro u s1 ⟨ad1, σ1, v, n1, r1, i, rfl, h1⟩
  obtain ⟨t, rfl⟩ := r1
  exact ⟨ad1, σ1, some i, n1, .int _ _, h1⟩
theorem sub_ops (lo hi st : Option Expr) (p : Pos) (o i : Value) : ∃ ops, subscripted (.Slice lo hi st p) false o i = operate ops (getItem o i) := by
  cases st
  · exact ⟨[i, o], rfl⟩
  · exact ⟨[o, i], rfl⟩
theorem WE_slice {value : Expr} {lo hi st : Option Expr} {p pos : Pos} (h : WE C A env value ρ σ (fun v σ1 => WO C A env lo ρ σ1 (fun l σ2 => WO C A env hi ρ σ2 (fun u σ3 => WO C A env st ρ σ3 (fun k σ4 =>
      ∃ xs, ObjAt C σ4 v (.list xs) ∧ k ≠ some 0 ∧ xs.length ≤ sizeLine ∧ Q (.ref σ4.length) (σ4 ++ [.list (pickV xs l u k)])) E) E) E) E) : WE C A env (.Subscript value (.Slice lo hi st p) pos) ρ σ Q E := by
  refine ⟨?_⟩
  intro ad s hr er
  refine Subscript_ (wpAny_mono (h.run ad s hr er) ?_ fun _ _ x => x)
  rintro a s1 ⟨ad1, σ1, va, n1, r1, h1⟩
  refine wpAny_Slice (wpAny_mono (h1.run ad1 s1 n1.hr (er.next n1)) ?_ fun _ _ x => x)
  rintro l s2 ⟨ad2, σ2, kl, n2, p2, h2⟩
  refine wpAny_mono (h2.run ad2 s2 n2.hr ((er.next n1).next n2)) ?_ fun _ _ x => x
  rintro u s3 ⟨ad3, σ3, ku, n3, p3, h3⟩
  refine wpAny_mono (h3.run ad3 s3 n3.hr (((er.next n1).next n2).next n3)) ?_ fun _ _ x => x
  rintro k s4 ⟨ad4, σ4, kk, n4, p4, xs, hb, h0, hz, h4⟩
  have n14 := (n1.trans n2).trans (n3.trans n4)
  have n24 := n2.trans (n3.trans n4)
  obtain ⟨b, vs, rfl, hl, rvs⟩ := hb.list n4.hr (n24.rv r1)
  obtain ⟨ops, hops⟩ := sub_ops lo hi st p (.ref b) (.ref s4.heap.objs.size)
  have np := Nx.push (C := C) (s := s4) { cls := .type "slice", data := .fields #[l, u, k] } n4.hr
  refine tail_any (Heap.IsList.typeIs (s := { s4 with heap := s4.heap.push { cls := .type "slice", data := .fields #[l, u, k] } }) (hl.push _)) slot_list_getitem.lookup
    (wpAny_getItem_list_slice (hl.push _) (Heap.IsSliceOf.new ..) p2 p3 p4 h0 ?_ (by rw [← Array.length_toList, ← rvs.length]; exact hz)) hops
  have na := Nx.alloc (o := .list (pickV xs kl ku kk)) np.hr ⟨_, 0, rfl, rvs.pick kl ku kk⟩
  exact PE.trans (n14.trans np) ⟨_, _, .ref σ4.length, na, RV.last np.hr.len.symm, h4⟩

/- list(x) -/
theorem HR.adopt {ad : List Addr} {h h' : Heap} {o : O} {ob : Obj} {a : Addr} (hr : HR C ad σ h) (hk : ∀ b o, h.get? b = some o → h'.get? b = some o) (ha : h.objs.size ≤ a) (hn : h'.get? a = some ob) (ro : RO C.w.params ad o ob) : HR C (ad ++ [a]) (σ ++ [o]) h' := by
  obtain ⟨hG, hn'⟩ := hr.fresh ha
  refine ⟨hr.ok, fun b x e => hk _ _ (hr.keep b x e), by simp [hr.len], ?_, ?_, fun a1 ha1 => (List.mem_append.mp ha1).elim (hr.low a1) (fun hm => by rw [List.mem_singleton.mp hm]; exact hr.freshLow ha), ?_⟩
  · refine List.nodup_append.mpr ⟨hr.nd, by simp, ?_⟩
    intro a1 ha1 b1 hb1 e
    simp only [List.mem_singleton] at hb1
    subst hb1; subst e; exact hn' ha1
  · intro a1 ha1
    rcases List.mem_append.mp ha1 with ha1 | ha1
    · exact hr.off a1 ha1
    · simp only [List.mem_singleton] at ha1; subst ha1; exact hG
  · intro i x a1 h1 h2
    by_cases hi : i < σ.length
    · rw [List.getElem?_append_left hi] at h1
      rw [List.getElem?_append_left (by rw [hr.len]; exact hi)] at h2
      obtain ⟨ob', h3, h4⟩ := hr.obj i x a1 h1 h2
      exact ⟨ob', hk _ _ h3, h4.mono⟩
    · have hi' : i = σ.length := by
        have := (List.getElem?_eq_some_iff.mp h1).1
        simp at this; omega
      subst hi'
      rw [List.getElem?_append_right (Nat.le_refl _)] at h1
      rw [List.getElem?_append_right (by rw [hr.len]; exact Nat.le_refl _)] at h2
      simp [hr.len] at h1 h2
      subst h1; subst h2
      exact ⟨ob, hn, ro.mono⟩
theorem WC_list {v : V} {xs : List V} (b : ObjAt C σ v (.list xs)) (hz : xs.length ≤ sizeLine) (h : Q (.ref σ.length) (σ ++ [.list xs])) : WC C A (.type "list") [v] σ Q E := by
  refine ⟨?_⟩
  rintro ad s us hr (_ | ⟨rv, _ | _⟩)
  obtain ⟨a, vs, rfl, hl, rvs⟩ := b.list hr rv
  obtain ⟨o, ho, hc, n, hd⟩ := id hl
  refine wpAny_sz (call_list_seq a (.inl rfl) ho hc hd (fun h' c' hk hn hsz => ?_) (by rw [← Array.length_toList, ← rvs.length]; exact hz))
  have hnn := hr.fresh (Nat.le_refl _)
  refine ⟨ad ++ [s.heap.objs.size], σ ++ [.list xs], .ref σ.length, ⟨⟨h', s.toks, rfl⟩, ⟨[s.heap.objs.size], rfl, by simp⟩, hsz, fun b o e _ _ => hk b o e, ?_⟩, RV.last hr.len.symm, h⟩
  exact HR.adopt hr hk (Nat.le_refl _) hn ⟨vs, c', rfl, rvs⟩
end
end Mine

-- part Aw11
set_option autoImplicit false
set_option linter.unusedVariables false
namespace Mine
open PySem PySem.W PyProof.Rows

noncomputable def relab (ns : List (Str × NameKind)) : List (Str × NameKind) := ns.map fun p => if p.2 == .free then (p.1, .cell) else p
noncomputable def clOf (env : Env) : List (Str × NameKind) → List (Str × Addr) → List (Str × Addr)
  | [], cs => cs
  | p :: r, cs => clOf env r (if p.2 == .free then (p.1, (env.cells.lookup p.1).getD 0) :: cs else cs)
theorem closure_of {env : Env} {sc : Scope} (h : ∀ n, (n, NameKind.free) ∈ sc.names → (env.cells.lookup n).isSome = true) : closureFor sc env = pure (clOf env sc.names []) := by
  simp only [closureFor]
  generalize sc.names = ns at h ⊢
  generalize ([] : List (Str × Addr)) = cs
  induction ns generalizing cs with
  | nil => rfl
  | cons p r ih =>
    obtain ⟨n, k⟩ := p
    have ihr := fun cs => ih (fun n hn => h n (List.mem_cons_of_mem _ hn)) cs
    rw [List.forIn_cons]
    by_cases hk : (k == NameKind.free) = true
    · have hk' : k = .free := by simpa using hk
      subst hk'
      have hn := h n List.mem_cons_self
      obtain ⟨c, hc⟩ := Option.isSome_iff_exists.mp hn
      have e1 : cellOf env n = pure c := by unfold cellOf; rw [hc]
      rw [if_pos hk, e1]
      have := ihr ((n, c) :: cs)
      simpa [clOf, hc] using this
    · rw [if_neg hk]
      have := ihr cs
      simpa [clOf, hk] using this

theorem clOf_mem {env : Env} : ∀ {ns : List (Str × NameKind)} {cs : List (Str × Addr)}, (∀ n, (n, NameKind.free) ∈ ns → (env.cells.lookup n).isSome = true) → (∀ p ∈ cs, env.cells.lookup p.1 = some p.2) → ∀ p ∈ clOf env ns cs, env.cells.lookup p.1 = some p.2
  | [], _, _, h, p, hp => h p hp
  | q :: r, cs, h0, h, p, hp => by
    refine clOf_mem (ns := r) (fun n hn => h0 n (List.mem_cons_of_mem _ hn)) ?_ p hp
    obtain ⟨n, k⟩ := q
    split
    · rename_i hk
      have hk' : k = .free := by simpa using hk
      subst hk'
      obtain ⟨c, hc⟩ := Option.isSome_iff_exists.mp (h0 n List.mem_cons_self)
      intro p hp
      rcases List.mem_cons.mp hp with rfl | hp
      · simp [hc]
      · exact h p hp
    · exact h
theorem lookup_cons_isSome {α : Type} {y : Str} {p : Str × α} {cs : List (Str × α)} (h : (cs.lookup y).isSome = true) : ((p :: cs).lookup y).isSome = true := by
  rw [List.lookup_cons]
  split
  · rfl
  · exact h
theorem clOf_some {env : Env} {y : Str} : ∀ {ns : List (Str × NameKind)} {cs : List (Str × Addr)}, ((y, NameKind.free) ∈ ns ∨ (cs.lookup y).isSome = true) → ((clOf env ns cs).lookup y).isSome = true
  | [], _, h => by
    rcases h with h | h
    · cases h
    · exact h
  | q :: r, cs, h => by
    refine clOf_some (ns := r) ?_
    rcases h with h | h
    · rcases List.mem_cons.mp h with e | h
      · subst e; right; simp [List.lookup_cons]
      · exact .inl h
    · right
      split
      · exact lookup_cons_isSome h
      · exact h
theorem mem_of_lookup {α : Type} {y : Str} : ∀ {cs : List (Str × α)} {c : α}, cs.lookup y = some c → (y, c) ∈ cs
  | [], _, h => by cases h
  | (n, d) :: r, c, h => by
    rw [List.lookup_cons] at h
    split at h
    · rename_i e
      have : y = n := by simpa using e
      cases h; subst this; exact List.mem_cons_self
    · exact List.mem_cons_of_mem _ (mem_of_lookup h)
theorem relab_lookup {y : Str} : ∀ {ns : List (Str × NameKind)} {k : NameKind}, ns.lookup y = some k → (relab ns).lookup y = some (if k == .free then .cell else k)
  | [], _, h => by cases h
  | (n, d) :: r, k, h => by
    have ih := fun k => @relab_lookup y r k
    rw [List.lookup_cons] at h
    show List.lookup y ((if (d == NameKind.free) = true then (n, NameKind.cell) else (n, d)) :: relab r) = _
    by_cases hd : (d == NameKind.free) = true
    · rw [if_pos hd, List.lookup_cons]
      split at h
      · cases h; simp [*]
      · simp [*]
    · rw [if_neg hd, List.lookup_cons]
      split at h
      · cases h; simp [*]
      · simp [*]
/-- the comprehension's names are as wished -/
noncomputable def compOk (onames : List (Str × NameKind)) (sc : Scope) (x : Str) (capt gl : List Str) : Bool :=
  sc.names.all (fun p => p.2 != .cell && (p.2 != .local || sc.names.lookup p.1 == some .local) && (p.2 != .free || (capt.contains p.1 && onames.lookup p.1 == some .cell)))
  && sc.names.lookup x == some .local && nmOk x && !capt.contains x
  && capt.all (fun y => nmOk y && sc.names.lookup y == some .free)
  && gl.all (fun y => nmOk y && sc.names.lookup y == some .globalImplicit)
structure CompOk (onames : List (Str × NameKind)) (sc : Scope) (x : Str) (capt gl : List Str) : Prop where
  nocell : ∀ y ∈ sc.names, y.2 ≠ .cell
  locs : ∀ y ∈ sc.names, y.2 = .local → sc.names.lookup y.1 = some .local
  free : ∀ n, (n, NameKind.free) ∈ sc.names → n ∈ capt ∧ onames.lookup n = some .cell
  xl : sc.names.lookup x = some .local
  xn : nmOk x = true
  xc : x ∉ capt
  cap : ∀ y ∈ capt, nmOk y = true ∧ sc.names.lookup y = some .free
  glo : ∀ y ∈ gl, nmOk y = true ∧ sc.names.lookup y = some .globalImplicit
theorem compOk.ok {onames : List (Str × NameKind)} {sc : Scope} {x : Str} {capt gl : List Str} (h : compOk onames sc x capt gl = true) : CompOk onames sc x capt gl := by
  unfold compOk at h
  simp only [Bool.and_eq_true, List.all_eq_true, Bool.or_eq_true, bne_iff_ne, beq_iff_eq, Bool.not_eq_true', List.contains_eq_mem, decide_eq_true_eq, decide_eq_false_iff_not] at h
  obtain ⟨⟨⟨⟨⟨h1, h2⟩, h3⟩, h4⟩, h5⟩, h6⟩ := h
  refine ⟨fun y hy => (h1 y hy).1.1, fun y hy e => ?_, fun n hn => ?_, h2, h3, h4, h5, h6⟩
  · exact ((h1 y hy).1.2).resolve_left fun h => h e
  · exact ((h1 _ hn).2).resolve_left fun h => h rfl

section
variable {C : Cx} {A : Around} {env : Env} {ρ : Loc} {σ : AH} {E : EX} {Q : V → AH → Prop}
theorem HR.own {ad : List Addr} {h : Heap} {o : O} {ob : Obj} {a : Addr} (hr : HR C ad σ h) (hn : h.get? a = some ob) (hG : C.G.get? a = none) (hn' : a ∉ ad) (hs : a ≠ sysModules) (ro : RO C.w.params ad o ob) : HR C (ad ++ [a]) (σ ++ [o]) h := by
  refine ⟨hr.ok, fun b x e => (hr.keep b x e), by simp [hr.len], ?_, ?_, fun a1 ha1 => (List.mem_append.mp ha1).elim (hr.low a1) (fun hm => by rw [List.mem_singleton.mp hm]; exact hs), ?_⟩
  · refine List.nodup_append.mpr ⟨hr.nd, by simp, ?_⟩
    intro a1 ha1 b1 hb1 e
    simp only [List.mem_singleton] at hb1
    subst hb1; subst e; exact hn' ha1
  · intro a1 ha1
    rcases List.mem_append.mp ha1 with ha1 | ha1
    · exact hr.off a1 ha1
    · simp only [List.mem_singleton] at ha1; subst ha1; exact hG
  · intro i x a1 h1 h2
    by_cases hi : i < σ.length
    · rw [List.getElem?_append_left hi] at h1
      rw [List.getElem?_append_left (by rw [hr.len]; exact hi)] at h2
      obtain ⟨ob', h3, h4⟩ := hr.obj i x a1 h1 h2
      exact ⟨ob', h3, h4.mono⟩
    · have hi' : i = σ.length := by
        have := (List.getElem?_eq_some_iff.mp h1).1
        simp at this; omega
      subst hi'
      rw [List.getElem?_append_right (Nat.le_refl _)] at h1
      rw [List.getElem?_append_right (by rw [hr.len]; exact Nat.le_refl _)] at h2
      simp [hr.len] at h1 h2
      subst h1; subst h2
      exact ⟨ob, hn, ro.mono⟩

/-- the tests of a comprehension -/
structure WIf (C : Cx) (A : Around) (env : Env) (r : Bool) (ifs : List Expr) (ρ : Loc) (σ : AH) (Q : Bool → AH → Prop) (E : EX) : Prop where
  run : ∀ ad (s : Shared), HR C ad σ s.heap → ER C env ρ ad s.heap → wpAny (model C.prog C.w) A (forIn ifs r fun c r => if r = true then do let ok ← isTrue c env (eval c env); pure (ForInStep.yield ok) else pure (ForInStep.yield r)) (PB C ad s Q) E s
theorem WIf_nil {r : Bool} {Q : Bool → AH → Prop} (h : Q r σ) : WIf C A env r [] ρ σ Q E := ⟨fun ad s hr er => wpAny_pure ⟨ad, σ, Nx.refl hr, h⟩⟩

theorem WIf_true {c : Expr} {r : List Expr} {Q : Bool → AH → Prop} (h : WB C A env c ρ σ (fun b σ1 => WIf C A env b r ρ σ1 Q E) E) : WIf C A env true (c :: r) ρ σ Q E := by
  refine ⟨?_⟩
  intro ad s hr er
  rw [List.forIn_cons]
  refine wpAny_bind ?_
  rw [if_pos rfl]
  refine wpAny_bind (wpAny_mono (h.run ad s hr er) ?_ fun _ _ x => x)
  rintro b s1 ⟨ad1, σ1, n1, h1⟩
  refine wpAny_pure ?_
  refine wpAny_mono (h1.run ad1 s1 n1.hr (er.next n1)) ?_ fun _ _ x => x
  rintro b2 s2 ⟨ad2, σ2, n2, h2⟩
  exact ⟨ad2, σ2, n1.trans n2, h2⟩
theorem Nx.toWg {l l2 : List (Str × Value)} {ch ad ad' : List Addr} {σ' : AH} {s s' : Shared} (n : Nx (C.wg l2) ch ad s ad' σ' s') (ok : (C.wg l).Ok) : Nx (C.wg l) ch ad s ad' σ' s' :=
  ⟨n.eq, n.pre, n.size, n.same, ⟨ok, n.hr.keep, n.hr.len, n.hr.nd, n.hr.off, n.hr.low, n.hr.obj⟩⟩
/-- a name's meaning in the globals or the built-ins -/
noncomputable def GloIs (C : Cx) (p : Str × Value) : Prop := C.mg p.1 = some p.2 ∨ (C.mg p.1 = none ∧ C.mb p.1 = some p.2)
theorem HR.toWg {l l2 : List (Str × Value)} {ad : List Addr} {h : Heap} (hr : HR (C.wg l) ad σ h) (hl : ∀ p ∈ l2, p ∈ l ∨ GloIs C p) : HR (C.wg l2) ad σ h :=
  ⟨⟨hr.ok.gob, hr.ok.g, hr.ok.b, fun x v hx => (hl _ hx).elim (hr.ok.glo x v) (fun z => z), hr.ok.lim⟩, hr.keep, hr.len, hr.nd, hr.off, hr.low, hr.obj⟩

/-- the env within a comprehension -/
theorem comp_er {l l2 : List (Str × Value)} {onames : List (Str × NameKind)} {sc : Scope} {x : Str} {capt : Loc} {ad : List Addr} {h : Heap} {Cl : Addr} {m : Str → Option Value} {v : V} {u : Value} (hkn : Kn env onames)
    (ok : CompOk onames sc x (capt.map (·.1)) (l2.map (·.1))) (hkind : sc.kind = .function) (hnd : (capt.map (·.1)).Nodup) (hcap : ∀ p ∈ capt, p ∈ ρ) (er : ER (C.wg l) env ρ ad h)
    (hn : h.Ns Cl m) (hu : m x = some u) (rv : RV ad v u) (hG : C.G.get? Cl = none) (had : Cl ∉ ad) (hCl : Cl ∉ fa env) (hlt : Cl < h.objs.size) :
    ER (C.wg l2) (compEnvC sc (clOf env sc.names []) Cl env) ((x, some v) :: capt) ad h ∧ Kn (compEnvC sc (clOf env sc.names []) Cl env) (relab sc.names) := by
  have hcell : ∀ n, (n, NameKind.free) ∈ sc.names → env.kindOf n = some .cell := fun n hn => hkn n _ (ok.free n hn).2
  have hsome : ∀ n, (n, NameKind.free) ∈ sc.names → (env.cells.lookup n).isSome = true := by
    intro n hn
    obtain ⟨p, hp, rfl⟩ := List.mem_map.mp (ok.free n hn).1
    rcases er.kd p.1 p.2 (hcap p hp) with e | ⟨_, e⟩
    · rw [hcell _ hn] at e; cases e
    · exact e
  have hmem := clOf_mem (env := env) (ns := sc.names) (cs := []) hsome (by simp)
  have hlk : ∀ y c, (clOf env sc.names []).lookup y = some c → env.cells.lookup y = some c := fun y c e => hmem (y, c) (mem_of_lookup e)
  have relabE : (relabel sc env).names = relab sc.names := by
    show List.map _ _ = List.map _ _
    refine List.map_congr_left fun p hp => ?_
    obtain ⟨n, k⟩ := p
    by_cases hk : (k == NameKind.free) = true
    · have hk' : k = .free := by simpa using hk
      subst hk'
      simp [hcell n hp, er.kind]
    · simp [hk]
  have kn : Kn (compEnvC sc (clOf env sc.names []) Cl env) (relab sc.names) := by
    intro y k e
    show (relabel sc env).names.lookup y = _
    rw [relabE]; exact e
  have kf : ∀ y ∈ capt.map (·.1), (compEnvC sc (clOf env sc.names []) Cl env).kindOf y = some .cell := fun y hy => kn y _ (relab_lookup (ok.cap y hy).2)
  refine ⟨⟨hkind, er.glob, er.blt, ?_, ?_, ⟨m, hn, ?_⟩, ?_, ?_, ?_, ?_, ?_, ?_, ?_⟩, kn⟩
  · exact List.nodup_cons.mpr ⟨ok.xc, hnd⟩
  · intro y w hy
    rcases List.mem_cons.mp hy with e | hy
    · cases e; exact .inl (kn x _ (relab_lookup ok.xl))
    · have hy' : y ∈ capt.map (·.1) := List.mem_map.mpr ⟨_, hy, rfl⟩
      exact .inr ⟨.inl (kf y hy'), clOf_some (.inl (mem_of_lookup (ok.cap y hy').2))⟩
  · intro y w hy hk
    rcases List.mem_cons.mp hy with e | hy
    · cases e; exact ⟨u, hu, rv⟩
    · rw [kf y (List.mem_map.mpr ⟨_, hy, rfl⟩)] at hk; cases hk
  · intro y c hc
    obtain ⟨o, w, h1, h2, h3⟩ := er.cell y c (hlk y c hc)
    refine ⟨o, w, h1, h2, fun z hz hk => ?_⟩
    rcases List.mem_cons.mp hz with e | hz
    · cases e; exact absurd (kn x _ (relab_lookup ok.xl)) hk
    · refine h3 z (hcap _ hz) ?_
      have := hcell y (mem_of_lookup (ok.cap y (List.mem_map.mpr ⟨_, hz, rfl⟩)).2)
      rw [this]; decide
  · intro y z c h1 h2
    exact er.cinj y z c (hlk _ _ h1) (hlk _ _ h2)
  · intro y c hc e
    refine hCl ?_
    rw [← show c = Cl from e]
    exact mem_cells (hlk y c hc)
  · intro a ha
    rcases List.mem_cons.mp ha with e | ha
    · subst e; exact ⟨hG, had⟩
    · obtain ⟨p, hp, rfl⟩ := List.mem_map.mp ha
      exact er.off _ (mem_cells (hmem p hp))
  · intro a ha
    rcases List.mem_cons.mp ha with e | ha
    · subst e; exact hlt
    · obtain ⟨p, hp, rfl⟩ := List.mem_map.mp ha
      exact er.lt _ (mem_cells (hmem p hp))
  · intro y w hy
    rcases List.mem_cons.mp hy with e | hy
    · cases e; exact ok.xn
    · exact (ok.cap y (List.mem_map.mpr ⟨_, hy, rfl⟩)).1
  · intro y w hy
    have := ok.glo y (List.mem_map.mpr ⟨_, hy, rfl⟩)
    exact ⟨kn y _ (relab_lookup this.2), this.1⟩
end
end Mine

-- part Aw12
set_option autoImplicit false
set_option linter.unusedVariables false
namespace Mine
open PySem PySem.W PyProof.Rows

section
variable {C : Cx} {A : Around} {env : Env} {ρ : Loc} {σ : AH} {E : EX} {Q : V → AH → Prop}
theorem adr_ne {a b : Nat} (h : a < b ∨ b < a) : @Ne Addr a b := by
  intro e
  have e' : (a : Nat) = b := e
  omega
theorem nlt {a b : Addr} (h : a < b) : @LT.lt Nat instLTNat a b := h
theorem Nx.touch {ad ad' : List Addr} {σ' : AH} {s2 s' : Shared} {I : Addr} {h' : Heap} {tk : Nat} (n : Nx C [I] ad s2 ad' σ' s') (hr' : HR C ad' σ' h') (hz : s'.heap.objs.size ≤ h'.objs.size)
    (hk : ∀ b o, b ≠ I → b < s2.heap.objs.size → s'.heap.get? b = some o → h'.get? b = some o) : Nx C [I] ad s2 ad' σ' { s' with heap := h', toks := tk } := by
  obtain ⟨h1, t1, e1⟩ := n.eq
  refine ⟨⟨h', tk, by rw [e1]⟩, n.pre, Nat.le_trans n.size hz, fun b o e hb hc => ?_, hr'⟩
  exact hk b o (by simpa using hc) (Heap.lt_size e) (n.same b o e hb hc)
theorem ER.keep {ad ad' : List Addr} {s : Shared} {h' : Heap} (r : ER C env ρ ad s.heap) (hp : ∃ nw, ad' = ad ++ nw ∧ ∀ a ∈ nw, s.heap.objs.size ≤ a) (keep : ∀ b ∈ fa env, ∀ o, s.heap.get? b = some o → h'.get? b = some o) (hz : s.heap.objs.size ≤ h'.objs.size) : ER C env ρ ad' h' := by
  obtain ⟨nw, rfl, hnw⟩ := hp
  refine ⟨r.kind, r.glob, r.blt, r.nd, r.kd, ?_, ?_, r.cinj, r.cl, ?_, fun b hb => Nat.lt_of_lt_of_le (r.lt b hb) hz, r.nm, r.gk⟩
  · obtain ⟨m, hm, h⟩ := r.m
    refine ⟨m, hm.at' fun o e => keep _ (by simp [fa]) o e, fun x v hx hk => ?_⟩
    obtain ⟨u, h1, h2⟩ := h x v hx hk
    exact ⟨u, h1, h2.mono⟩
  · intro x c hc
    obtain ⟨o, w, h1, h2, h3⟩ := r.cell x c hc
    refine ⟨o, w, keep c (mem_cells hc) o h1, h2, fun v hv hk => ?_⟩
    obtain ⟨u, h4, h5⟩ := h3 v hv hk
    exact ⟨u, h4, h5.mono⟩
  · intro a ha
    refine ⟨(r.off a ha).1, fun hm => ?_⟩
    rcases List.mem_append.mp hm with hm | hm
    · exact (r.off a ha).2 hm
    · exact absurd (r.lt a ha) (Nat.not_lt.mpr (hnw a hm))

theorem comp_core {l l2 : List (Str × Value)} {onames : List (Str × NameKind)} {sc : Scope} {x : Str} {px : Pos} {elt iter : Expr} {ifs : List Expr} {pos : Pos} {capt : Loc} {ad : List Addr} {s2 : Shared} {I : Addr} {n : Nat} {P : Nat → V} {Cd : AH → Prop}
    {St : Nat → Heap → Prop} {RR : Value → Addr → Result → Shared → Prop} {Inv : Nat → List V → AH → Prop}
    (hkn : Kn env onames) (ok : CompOk onames sc x (capt.map (·.1)) (l2.map (·.1))) (hkind : sc.kind = .function) (hnd : (capt.map (·.1)).Nodup) (hcap : ∀ p ∈ capt, p ∈ ρ) (hl2 : ∀ p ∈ l2, p ∈ l ∨ GloIs C p)
    (hr : HR (C.wg l) ad σ s2.heap) (er : ER (C.wg l) env ρ ad s2.heap) (wk : Wk (C.wg l) A ad I n P Cd St) (st0 : St 0 s2.heap) (hI : I ∉ ad) (hIfa : I ∉ fa env) (hIG : C.G.get? I = none) (hsz : n ≤ sizeLine) (inv0 : Inv 0 [] σ)
    (turn : ∀ i acc σ', i < n → Inv i acc σ' → Cd σ' ∧ ∀ cenv, Kn cenv (relab sc.names) → WIf (C.wg l2) A cenv true ifs ((x, some (P i)) :: capt) σ'
      (fun b σ2 => if b = true then WE (C.wg l2) A cenv elt ((x, some (P i)) :: capt) σ2 (fun v σ3 => Inv (i + 1) (acc ++ [v]) σ3) (fun _ _ => False) else Inv (i + 1) acc σ2) (fun _ _ => False))
    (hcd : ∀ acc σ', Inv n acc σ' → Cd σ')
    (hRR : ∀ D Cl ad' σ' vs s' m, s'.heap.Ns Cl m → s2.heap.objs.size ≤ Cl → Cl ∉ ad' → Nx (C.wg l) [I] ad s2 ad' (σ' ++ [.list vs]) s' → RV ad' (.ref σ'.length) (.ref D) → Inv n vs σ' → RR (.ref D) Cl (.ok .next) s') :
    wpAny (model C.prog C.w) A (newList []) (fun acc s3 => wpAny (model C.prog C.w) A (newFunctionEnv sc env.globals (clOf env sc.names []) [] env.qual none .none (some env)) (fun cenv s4 =>
      codeAny (model C.prog C.w) A (.compStart (.ListComp elt [⟨.Name x px, iter, ifs, 0⟩] sc pos) 0 (.ref I) acc { cenv with scope := relabel sc env }) (RR acc cenv.locals) s4) E s3) E s2 := by
  refine wpAny_newObj_type (wpAny_newFunctionEnv ok.nocell (by intro y hy; simp at hy) (fun h1 hns1 hsb1 => ?_) hkind)
  dsimp only at hns1 hsb1 ⊢
  generalize hH2 : s2.heap.push { cls := .type "list", dict := none, data := .seq ([] : List Value).toArray } = H2 at hns1 hsb1 ⊢
  have hC : H2.objs.size = s2.heap.objs.size + 1 := by rw [← hH2, Heap.size_push]
  have hDC : s2.heap.objs.size ≠ H2.objs.size := by omega
  have old : ∀ b o, s2.heap.get? b = some o → h1.get? b = some o := fun b o e => hsb1.extBut b o (adr_ne (.inl (by have := nlt (Heap.lt_size e); omega))) (Heap.get?_push_of_some _ (hH2 ▸ Heap.get?_push_of_some _ e))
  have hacc : h1.PlainList s2.heap.objs.size #[] := ⟨_, hsb1.extBut _ _ hDC (Heap.get?_push_of_some _ (hH2 ▸ Heap.get?_push_size _ rfl))⟩
  have hz1 : s2.heap.objs.size + 2 ≤ h1.objs.size := by
    have := hsb1.1
    rw [Heap.size_push] at this
    omega
  obtain ⟨oI, hoI⟩ := wk.ex _ _ st0
  have hIlt := nlt (Heap.lt_size hoI)
  have fD := hr.fresh (Nat.le_refl s2.heap.objs.size)
  have fC := hr.fresh (a := H2.objs.size) (by omega)
  have hClfa : H2.objs.size ∉ fa env := fun hm => absurd (er.lt _ hm) (Nat.not_lt.mpr (by omega))
  have st1 : St 0 h1 := wk.own _ _ _ st0 ((old I oI hoI).trans hoI.symm)
  have n1 : ∀ t, Nx (C.wg l) [I] ad s2 ad σ { s2 with heap := h1, toks := t } := fun t => ⟨⟨h1, t, rfl⟩, ⟨[], by simp, by simp⟩, by show s2.heap.objs.size ≤ h1.objs.size; omega, fun b o e _ _ => old b o e, hr.keeps old⟩
  have loop : ∀ s3 : Shared, s3 = { s2 with heap := h1, toks := s2.toks + ([] : List (Str × Value)).length } →
      codeAny (model C.prog C.w) A (.compLoop (.ListComp elt [⟨.Name x px, iter, ifs, 0⟩] sc pos) 0 (.ref I) (.ref s2.heap.objs.size) (compEnvC sc (clOf env sc.names []) H2.objs.size env)) (RR (.ref s2.heap.objs.size) H2.objs.size) s3 := by
    rintro s3 rfl
    refine codeAny_compLoop_tests (fun k s' => ∃ i ad' σ' accV accU m', k = n - i ∧ i ≤ n ∧ Nx (C.wg l) [I] ad s2 ad' σ' s' ∧ s2.heap.objs.size ∉ ad' ∧ H2.objs.size ∉ ad' ∧ I ∉ ad' ∧ s'.heap.Ns H2.objs.size m' ∧ s'.heap.PlainList s2.heap.objs.size accU ∧
      RVs ad' accV accU.toList ∧ St i s'.heap ∧ Inv i accV σ' ∧ accV.length ≤ i) ?_ n ⟨0, ad, σ, [], #[], _, rfl, Nat.zero_le _, n1 _, fD.2, fC.2, hI, hns1, hacc, .nil, st1, inv0, Nat.le_refl _⟩
    rintro k s' ⟨i, ad', σ', accV, accU, m', rfl, hi, n3, hD', hC', hI', hns', hpl', rvs', st', inv', hlen'⟩
    have neI : ∀ b o, C.G.get? b = some o ∨ b ∈ ad' → b ≠ I := by
      rintro b o (e | e) rfl
      · rw [hIG] at e; cases e
      · exact hI' e
    have neC : ∀ b o, C.G.get? b = some o ∨ b ∈ ad' → b ≠ H2.objs.size := by
      rintro b o (e | e) rfl
      · rw [fC.1] at e; cases e
      · exact hC' e
    have neD : ∀ b o, C.G.get? b = some o ∨ b ∈ ad' → b ≠ s2.heap.objs.size := by
      rintro b o (e | e) rfl
      · rw [fD.1] at e; cases e
      · exact hD' e
    by_cases hlt : i < n
    · obtain ⟨cd, tb⟩ := turn i accV σ' hlt inv'
      refine wk.item i ad' σ' s' _ _ hlt (let ⟨nw, p, _⟩ := n3.pre; ⟨nw, p⟩) n3.hr cd st' fun u h' tk ru st'' hsb => ?_
      refine wpAny_assign_Name (wpAny_storeName_local (lookup_relabel_local ok.xl) (hns'.at' fun o e => hsb.extBut _ o (adr_ne (.inr (by omega))) e) (fun h2 hn2 hs2 => ?_) (by simp [compEnvC, relabel, hkind]))
      have k2 : ∀ b o, b ≠ I → b ≠ H2.objs.size → s'.heap.get? b = some o → h2.get? b = some o := fun b o h1 h2 e => hs2.extBut b o h2 (hsb.extBut b o h1 e)
      have hr4 : HR (C.wg l) ad' σ' h2 := n3.hr.same fun b o hb e => k2 b o (neI b o hb) (neC b o hb) e
      have hz4 : s'.heap.objs.size = h2.objs.size := by
        have a1 := hsb.1
        have a2 := hs2.1
        simp only at a2
        omega
      have er4 : ER (C.wg l) env ρ ad' h2 := er.keep n3.pre (fun b hb o e => k2 b o (fun e' => hIfa (e' ▸ hb)) (fun e' => hClfa (e' ▸ hb)) (n3.same b o e (er.off b hb).2 (by simp; rintro rfl; exact hIfa hb))) (by have := n3.size; omega)
      obtain ⟨erc, kn⟩ := comp_er (l2 := l2) hkn ok hkind hnd hcap er4 hn2 (u := u) (v := P i) (by simp) ru fC.1 hC' hClfa (by rw [← hz4]; exact hns'.lt)
      have st4 : St (i + 1) h2 := wk.own _ _ _ st'' (by
        obtain ⟨oI', hoI'⟩ := wk.ex _ _ st''
        rw [hoI']; exact hs2.extBut _ _ (adr_ne (b := H2.objs.size) (.inl (by omega))) hoI')
      have hpl4 : h2.PlainList s2.heap.objs.size accU := by
        obtain ⟨c, hc⟩ := hpl'
        exact ⟨c, k2 _ _ (adr_ne (.inr (by omega))) hDC hc⟩
      refine wpAny_mono ((tb _ kn).run ad' _ (hr4.toWg hl2) erc) ?_ fun _ _ f => f.elim
      rintro b s5 ⟨ad5, σ5, n5, h5⟩
      have n35 := fun t => (n3.touch (tk := t) hr4 (by omega) (fun b o h1 h2 e => k2 b o h1 (adr_ne (.inl (by have h2' := nlt h2; omega))) e))
      have done5 : ∀ (adN : List Addr) (σN : AH) (sN : Shared) t, Nx (C.wg l2) [] ad' { s' with heap := h2, toks := t } adN σN sN →
          Nx (C.wg l) [I] ad s2 adN σN sN ∧ s2.heap.objs.size ∉ adN ∧ H2.objs.size ∉ adN ∧ I ∉ adN ∧ sN.heap.Ns H2.objs.size (fun z => if z = x then some u else m' z) ∧ sN.heap.PlainList s2.heap.objs.size accU ∧ St (i + 1) sN.heap ∧ ∃ nw, adN = ad' ++ nw := by
        intro adN σN sN t nN
        have nN' := nN.toWg hr.ok
        obtain ⟨nw, p, q⟩ := nN.pre
        have notin : ∀ a, a ∉ ad' → a < h2.objs.size → a ∉ adN := by
          intro a h1 h2 hm
          rw [p] at hm
          rcases List.mem_append.mp hm with hm | hm
          · exact h1 hm
          · exact absurd (q a hm) (Nat.not_le.mpr h2)
        have hs3 := n3.size
        have hz3 : H2.objs.size < h2.objs.size := by rw [← hz4]; exact hns'.lt
        refine ⟨(n35 t).trans (nN'.wider (by simp)), notin _ hD' (Nat.lt_trans (show s2.heap.objs.size < H2.objs.size by omega) hz3), notin _ hC' hz3, notin _ hI' (Nat.lt_trans (Nat.lt_trans hIlt (show s2.heap.objs.size < H2.objs.size by omega)) hz3), hn2.at' fun o e => nN.same _ o e hC' (by simp), ?_, ?_, nw, p⟩
        · obtain ⟨c, hc⟩ := hpl4
          exact ⟨c, nN.same _ _ hc hD' (by simp)⟩
        · obtain ⟨oI', hoI'⟩ := wk.ex _ _ st4
          exact wk.own _ _ _ st4 ((nN.same _ _ hoI' hI' (by simp)).trans hoI'.symm)
      cases b with
      | false =>
        obtain ⟨a1, a2, a3, a4, a5, a6, a7, nw, a8⟩ := done5 ad5 σ5 s5 _ n5
        exact ⟨n - (i + 1), by omega, i + 1, ad5, σ5, accV, accU, _, rfl, hlt, a1, a2, a3, a4, a5, a6, by rw [a8]; exact rvs'.mono, a7, h5, by omega⟩
      | true =>
        have h5' : WE (C.wg l2) A _ elt ((x, some (P i)) :: capt) σ5 (fun v σ3 => Inv (i + 1) (accV ++ [v]) σ3) (fun _ _ => False) := h5
        refine wpAny_mono (h5'.run ad5 s5 n5.hr (erc.next n5)) ?_ fun _ _ f => f.elim
        rintro y s6 ⟨ad6, σ6, v, n6, r6, inv6⟩
        obtain ⟨a1, a2, a3, a4, a5, a6, a7, nw, a8⟩ := done5 ad6 σ6 s6 _ (n5.trans n6)
        refine wpAny_list_append_plain a6 (fun h' hp hs => ?_) (by rw [← Array.length_toList, ← rvs'.length]; omega)
        have hr7 : HR (C.wg l) ad6 σ6 h' := a1.hr.same fun b o hb e => hs.extBut b o (by
          rintro rfl
          rcases hb with e | e
          · have : C.G.get? s2.heap.objs.size = some o := e
            rw [fD.1] at this; cases this
          · exact a2 e) e
        refine ⟨n - (i + 1), by omega, i + 1, ad6, σ6, accV ++ [v], accU.push y, _, rfl, hlt, a1.touch hr7 (Nat.le_of_eq hs.1.symm) (fun b o h1 h2 e => hs.extBut b o (adr_ne (.inl (nlt h2))) e), a2, a3, a4, a5.at' fun o e => hs.extBut _ o (Ne.symm hDC) e, hp, ?_, ?_, inv6, by simp; omega⟩
        · rw [Array.toList_push, a8]
          exact rvs'.mono.append (.cons (a8 ▸ r6) .nil)
        · obtain ⟨oI', hoI'⟩ := wk.ex _ _ a7
          exact wk.own _ _ _ a7 ((hs.extBut _ _ (adr_ne (.inl (by omega))) hoI').trans hoI'.symm)
    · obtain rfl : i = n := by omega
      refine wpAny_sz (wk.done ad' σ' s' _ _ (let ⟨nw, p, _⟩ := n3.pre; ⟨nw, p⟩) n3.hr (hcd _ _ inv') st' fun h' tk hk hz => ?_)
      obtain ⟨c, hc⟩ := hpl'
      have hc' := hk _ _ (adr_ne (.inr (by omega))) hc
      have hr4 : HR (C.wg l) ad' σ' h' := n3.hr.same fun b o hb e => hk b o (neI b o hb) e
      have n4 := n3.touch (tk := tk) hr4 hz fun b o h1 _ e => hk b o h1 e
      have hr5 := HR.own (o := .list accV) hr4 hc' fD.1 hD' (hr.freshLow (Nat.le_refl _)) ⟨_, c, rfl, rvs'⟩
      have hlen : σ'.length = ad'.length := hr4.len.symm
      obtain ⟨nw, p, q⟩ := n3.pre
      refine hRR _ _ (ad' ++ [s2.heap.objs.size]) σ' accV _ m' (hns'.at' fun o e => hk _ o (adr_ne (.inr (by omega))) e) (show (s2.heap.objs.size : Nat) ≤ H2.objs.size by omega) ?_ ⟨n4.eq, ⟨nw ++ [s2.heap.objs.size], by rw [p, List.append_assoc], ?_⟩, n4.size, n4.same, hr5⟩ (RV.last hlen) inv'
      · intro hm
        rcases List.mem_append.mp hm with hm | hm
        · exact hC' hm
        · simp at hm; omega
      · intro a ha
        rcases List.mem_append.mp ha with ha | ha
        · exact q a ha
        · simp at ha; exact Nat.le_of_eq ha.symm
  exact codeAny_compStart_list (loop _ rfl) (wk.self 0 _ _ _ st1 (loop _ rfl))

theorem comp_closed {l l2 : List (Str × Value)} {onames : List (Str × NameKind)} {sc : Scope} {x : Str} {capt : Loc} {ad : List Addr} {h : Heap} (hkn : Kn env onames) (ok : CompOk onames sc x (capt.map (·.1)) (l2.map (·.1))) (hcap : ∀ p ∈ capt, p ∈ ρ) (er : ER (C.wg l) env ρ ad h) :
    closureFor sc env = pure (clOf env sc.names []) := by
  refine closure_of fun n hn => ?_
  obtain ⟨p, hp, rfl⟩ := List.mem_map.mp (ok.free n hn).1
  rcases er.kd p.1 p.2 (hcap p hp) with e | ⟨_, e⟩
  · rw [hkn _ _ (ok.free _ hn).2] at e; cases e
  · exact e
/-- what a comprehension asks -/
noncomputable def CompGo (C : Cx) (A : Around) (l2 : List (Str × Value)) (sc : Scope) (x : Str) (ifs : List Expr) (elt : Expr) (capt : Loc) (K : List V → AH → Prop) (n : Nat) (P : Nat → V) (Cd : AH → Prop) (σ1 : AH) : Prop :=
  n ≤ sizeLine ∧ ∃ Inv : Nat → List V → AH → Prop, Inv 0 [] σ1 ∧ (∀ i acc σ' pv, i < n → P i = pv → Inv i acc σ' → Cd σ' ∧ ∀ cenv, Kn cenv (relab sc.names) → WIf (C.wg l2) A cenv true ifs ((x, some pv) :: capt) σ'
      (fun b σ2 => if b = true then WE (C.wg l2) A cenv elt ((x, some pv) :: capt) σ2 (fun v σ3 => Inv (i + 1) (acc ++ [v]) σ3) (fun _ _ => False) else Inv (i + 1) acc σ2) (fun _ _ => False)) ∧
    ∀ acc σ', Inv n acc σ' → Cd σ' ∧ K acc σ'
theorem WE_ListComp2 {l l2 : List (Str × Value)} {onames : List (Str × NameKind)} {sc : Scope} {x : Str} {px : Pos} {elt iter : Expr} {ifs : List Expr} {pos : Pos} {capt : Loc}
    (hkn : Kn env onames) (hok : compOk onames sc x (capt.map (·.1)) (l2.map (·.1)) = true) (hnd : (capt.map (·.1)).Nodup) (hcap : ∀ p ∈ capt, p ∈ ρ) (hl2 : ∀ p ∈ l2, p ∈ l ∨ GloIs C p)
    (h : WItr (C.wg l) A env iter ρ σ (CompGo C A l2 sc x ifs elt capt (fun acc σ' => Q (.ref σ'.length) (σ' ++ [.list acc]))) E)
    (hkind : sc.kind = .function := by rfl) (hs : isSetE iter = false := by rfl) : WE (C.wg l) A env (.ListComp elt [⟨.Name x px, iter, ifs, 0⟩] sc pos) ρ σ Q E := by
  refine ⟨?_⟩
  intro ad s hr er
  have ok := compOk.ok hok
  rw [eval_ListComp]
  refine wpAny_comprehension_free (use := none) rfl (folded_not hs) (comp_closed hkn ok hcap er) hkind ok.locs (wpAny_mono (h.run ad s hr er) (fun xv s1 h1 => wpAny_mono h1 ?_ fun _ _ e => e) fun _ _ e => e)
  rintro it s2 ⟨ad1, σ1, n, P, Cd, I, St, rfl, wk, st0, hI, hIad, n2, hsz, Inv, inv0, turn, fin⟩
  have er2 := er.next n2
  have hIfa : I ∉ fa env := fun hm => absurd (er.lt I hm) (Nat.not_lt.mpr hI)
  have hIG : C.G.get? I = none := (hr.fresh hI).1
  refine comp_core (C := C) (RR := fun acc Cl => compPost (model C.prog C.w) A E none (PE (C.wg l) ad s Q) acc Cl) hkn ok hkind hnd hcap hl2 n2.hr er2 wk st0 hIad hIfa hIG hsz inv0 (fun i acc σ' hi hv => turn i acc σ' (P i) hi rfl hv) (fun acc σ' hi => (fin acc σ' hi).1) ?_
  intro D Cl ad' σ' vs s' m hn hCl hClad n3 rv inv
  refine ⟨m, hn, fun h' hs' => ?_⟩
  have hClG : C.G.get? Cl = none := (n2.hr.fresh hCl).1
  have hr' : HR (C.wg l) ad' (σ' ++ [.list vs]) h' := n3.hr.same fun b o hb e => hs'.extBut b o (by
    rintro rfl
    rcases hb with e | e
    · have : C.G.get? b = some o := e
      rw [hClG] at this; cases this
    · exact hClad e) e
  have n4 := n3.touch (tk := s'.toks) hr' (Nat.le_of_eq hs'.1.symm) fun b o _ h2 e => hs'.extBut b o (adr_ne (.inl (Nat.lt_of_lt_of_le h2 hCl))) e
  exact ⟨ad', _, _, Nx.drop1 n2 hI n4, rv, (fin vs σ' inv).2⟩
theorem WS_assign_comp2 {l l2 : List (Str × Value)} {onames : List (Str × NameKind)} {sc : Scope} {x y : Str} {px py : Pos} {elt iter : Expr} {ifs : List Expr} {pos spos : Pos} {capt : Loc} {Q : Fl → Loc → AH → Prop}
    (hkn : Kn env onames) (hok : compOk onames sc x (capt.map (·.1)) (l2.map (·.1)) = true) (hnd : (capt.map (·.1)).Nodup) (hcap : ∀ p ∈ capt, p ∈ ρ) (hl2 : ∀ p ∈ l2, p ∈ l ∨ GloIs C p)
    (h : WItr (C.wg l) A env iter ρ σ (CompGo C A l2 sc x ifs elt capt (fun acc σ' => ∃ ρ', Up y (some (.ref σ'.length)) ρ ρ' ∧ Q .next ρ' (σ' ++ [.list acc]))) E)
    (hk : (onames.lookup y == some .local && !(sc.names.any fun p => p.1 == y && (p.2 == .local || p.2 == .cell)) || onames.lookup y == some .cell) = true := by rfl) (hpl : py.line = pos.line := by rfl)
    (hkind : sc.kind = .function := by rfl) (hs : isSetE iter = false := by rfl) : WS (C.wg l) A env (.Assign [.Name y py] (.ListComp elt [⟨.Name x px, iter, ifs, 0⟩] sc pos) spos) ρ σ Q E := by
  refine ⟨?_⟩
  intro ad s hr er
  have ok := compOk.ok hok
  by_cases hy : onames.lookup y = some .cell
  · have hsw : swapsWith (.ListComp elt [⟨.Name x px, iter, ifs, 0⟩] sc pos) (some (.Name y py)) spos.line env = pure false := by
      unfold swapsWith
      simp [hkn y _ hy, show (NameKind.cell == NameKind.local) = false from rfl]
    refine wpAny_Assign_Name (wpAny_mono ((WE_ListComp2 (Q := fun v σ1 => ∃ ρ', Up y (some v) ρ ρ' ∧ Q .next ρ' σ1) hkn hok hnd hcap hl2 h hkind hs).run ad s hr er) ?_ fun _ _ x => x) hsw
    rintro a s1 ⟨ad1, σ1, va, n1, r1, ρ', up, h1⟩
    exact store_name n1.hr (er.next n1) up r1 fun s' n2 e2 => ⟨ad1, σ1, ρ', .next, n1.weak.trans n2, e2, rfl, h1⟩
  · have hk' : onames.lookup y = some .local ∧ (sc.names.any fun p => p.1 == y && (p.2 == .local || p.2 == .cell)) = false := by
      simp only [Bool.or_eq_true, Bool.and_eq_true, beq_iff_eq, Bool.not_eq_true'] at hk
      exact hk.resolve_right hy
    have hsw : swapsWith (.ListComp elt [⟨.Name x px, iter, ifs, 0⟩] sc pos) (some (.Name y py)) spos.line env = pure true := by
      have e1 : env.blockKind = .function := by unfold Env.blockKind; rw [er.kind]; rfl
      have e2 : (Expr.ListComp elt [⟨.Name x px, iter, ifs, 0⟩] sc pos).pos = pos := rfl
      have e3 := hk'.2
      show (pure (env.blockKind == .function && env.kindOf y == some .local && py.line == pos.line && !(sc.names.any fun (n, k) => n == y && (k == .local || k == .cell))) : Sem Bool) = pure true
      rw [e1, hkn y _ hk'.1, hpl]
      have e4 : (sc.names.any fun (n, k) => n == y && (k == .local || k == .cell)) = false := hk'.2
      rw [e4]
      simp
    rw [exec_Assign_Name_used _ _ _ _ hsw]
    refine wpAny_bind (wpAny_standAt (wpAny_bind ?_))
    show wpAny _ A (do let _ ← comprehension (.ListComp elt [⟨.Name x px, iter, ifs, 0⟩] sc pos) sc env _ (newList []) false (eval iter env) (some (assign (.Name y py) env))) _ _ s
    refine wpAny_bind (wpAny_mono (wpAny_comprehension_free (use := some (assign (.Name y py) env)) (Q := fun _ s' => PS (C.wg l) env ad s Q .next s') rfl (folded_not hs) (comp_closed hkn ok hcap er) hkind ok.locs
      (wpAny_mono (h.run ad s hr er) (fun xv s1 h1 => wpAny_mono h1 ?_ fun _ _ e => e) fun _ _ e => e)) (fun _ s' hq => wpAny_pure (wpAny_pure hq)) fun _ _ e => e)
    rintro it s2 ⟨ad1, σ1, n, P, Cd, I, St, rfl, wk, st0, hI, hIad, n2, hsz, Inv, inv0, turn, fin⟩
    have er2 := er.next n2
    have hIfa : I ∉ fa env := fun hm => absurd (er.lt I hm) (Nat.not_lt.mpr hI)
    have hIG : C.G.get? I = none := (hr.fresh hI).1
    refine comp_core (C := C) (RR := fun acc Cl => compPost (model C.prog C.w) A E (some (assign (.Name y py) env)) (fun _ s' => PS (C.wg l) env ad s Q .next s') acc Cl) hkn ok hkind hnd hcap hl2 n2.hr er2 wk st0 hIad hIfa hIG hsz inv0 (fun i acc σ' hi hv => turn i acc σ' (P i) hi rfl hv) (fun acc σ' hi => (fin acc σ' hi).1) ?_
    intro D Cl ad' σ' vs s' m hn hCl hClad n3 rv inv
    have hClG : C.G.get? Cl = none := (n2.hr.fresh hCl).1
    have hClfa : Cl ∉ fa env := fun hm => absurd (er2.lt Cl hm) (Nat.not_lt.mpr hCl)
    have er3 : ER (C.wg l) env ρ ad' s'.heap := er2.keep n3.pre (fun b hb o e => n3.same b o e (er2.off b hb).2 (by simp; rintro rfl; exact hIfa hb)) n3.size
    obtain ⟨ρ', up, hq⟩ := (fin vs σ' inv).2
    show wpAny _ A (assign (.Name y py) env (.ref D)) _ _ _
    refine wpAny_assign_Name (store_name (C := C.wg l) n3.hr er3 up rv fun s4 n4 er4 => ?_)
    refine ⟨m, hn.at' fun o e => n4.same _ o e hClad hClfa, fun h' hs' => ?_⟩
    have keep : ∀ b o, C.G.get? b = some o ∨ b ∈ ad' → s4.heap.get? b = some o → h'.get? b = some o := fun b o hb e => hs'.extBut b o (by
      rintro rfl
      rcases hb with e | e
      · rw [hClG] at e; cases e
      · exact hClad e) e
    have hr' : HR (C.wg l) ad' (σ' ++ [.list vs]) h' := n4.hr.same keep
    have er5 : ER (C.wg l) env ρ' ad' h' := er4.keep (s := s4) ⟨[], by simp, by simp⟩ (fun b hb o e => hs'.extBut b o (fun e' => hClfa (e' ▸ hb)) e) (Nat.le_of_eq hs'.1.symm)
    have n34 : Nx (C.wg l) (I :: fa env) ad1 s2 ad' (σ' ++ [.list vs]) s4 := (n3.wider (by simp)).trans (n4.wider fun b hb => List.mem_cons_of_mem _ hb)
    have n5 : Nx (C.wg l) (I :: fa env) ad1 s2 ad' (σ' ++ [.list vs]) { s4 with heap := h' } := by
      obtain ⟨h1, t1, e1⟩ := n34.eq
      refine ⟨⟨h', t1, by rw [e1]⟩, n34.pre, Nat.le_trans n34.size (Nat.le_of_eq hs'.1.symm), fun b o e hb hc => ?_, hr'⟩
      exact hs'.extBut b o (adr_ne (.inl (Nat.lt_of_lt_of_le (Heap.lt_size e) hCl))) (n34.same b o e hb hc)
    exact ⟨ad', _, ρ', .next, Nx.drop1 n2 hI n5, er5, rfl, hq⟩
end
end Mine

-- part Aw13
set_option autoImplicit false
set_option linter.unusedVariables false
namespace Mine
open PySem PySem.W PyProof.Rows

section
variable {C : Cx} {A : Around} {env : Env} {ρ : Loc} {σ : AH} {E : EX} {Q : V → AH → Prop}
theorem sum_snoc (x : Int) : ∀ xs : List Int, (xs ++ [x]).sum = xs.sum + x
  | [] => by simp
  | y :: r => by
    have := sum_snoc x r
    rw [List.cons_append, List.sum_cons, List.sum_cons, this]; omega
theorem preSum_getD (ns : List Int) : ∀ n, n ≤ ns.length → preSum (fun i => ns.getD i 0) n = (ns.take n).sum
  | 0, _ => by simp [preSum]
  | n + 1, h => by
    have ih := preSum_getD ns n (by omega)
    have hl : n < ns.length := by omega
    have e : ns.take (n + 1) = ns.take n ++ [ns.getD n 0] := by rw [List.take_add_one]; simp [List.getD, hl]
    rw [preSum, ih, e, sum_snoc]
theorem WC_sum {v : V} {ns : List Int} (hA : A.handled = none) (b : ObjAt C σ v (.list (ns.map .int))) (h : Q (.int ns.sum) σ) : WC C A (.builtin "sum") [v] σ Q E := by
  refine ⟨?_⟩
  rintro ad s us hr (_ | ⟨rv, _ | _⟩)
  obtain ⟨a, vs, rfl, hl, rvs⟩ := b.list hr rv
  obtain ⟨o, ho, hc, n, hd⟩ := id hl
  have hne : a ≠ s.heap.objs.size := fun e => Nat.lt_irrefl _ (e ▸ Heap.lt_size ho)
  refine wpAny_sz (call_sum_walkG (wpAny_pyIter_list hl ⟨s.heap.objs.size, _, _, _, _, _, fun i => ns.getD i 0, rfl, Walks.list (A := A.in1) hA s.heap.objs.size a hne vs, ⟨⟨_, Heap.get?_push_size _ rfl, rfl, rfl⟩, hl.push _⟩, ?_, ?_, ?_⟩))
  · intro b hb
    simp only [List.mem_cons, List.not_mem_nil, or_false] at hb
    rcases hb with rfl | rfl
    · show s.heap.objs.size < (s.heap.push _).objs.size
      rw [Heap.size_push]; exact Nat.lt_succ_self _
    · show _ < (s.heap.push _).objs.size
      rw [Heap.size_push]; exact Nat.lt_succ_of_lt (Heap.lt_size ho)
  · intro i u hu
    have hlt : i < ns.length := by
      have h1 := (Array.getElem?_eq_some_iff.mp hu).1
      have h2 := rvs.length
      simp at h2; omega
    obtain ⟨u', h1, t, h2⟩ := rvs.get (i := i) (a := .int (ns.getD i 0)) (by simp [List.getD, hlt])
    have e : u' = u := by
      rw [Array.getElem?_toList] at h1
      rw [h1] at hu; exact Option.some.inj hu
    subst e; exact ⟨t, h2⟩
  · intro h' tk t' hk hz
    have hlen : vs.size = ns.length := by have := rvs.length; simp at this; omega
    refine ⟨ad, σ, .int ns.sum, Nx.keeps hz hr fun b o e => hk b o (by simp; rintro rfl; exact Nat.lt_irrefl _ (Heap.lt_size e)) (Heap.get?_push_of_some _ e), ⟨t', ?_⟩, h⟩
    rw [hlen, preSum_getD ns _ (Nat.le_refl _), List.take_length]

/- reversed lists -/
theorem WItr_rev {l : List (Str × Value)} {id : Str} {p pos : Pos} {args : List Expr} {K : Nat → (Nat → V) → (AH → Prop) → AH → Prop} (hA : A.handled = none) (hf : (id, Value.type "reversed") ∈ l)
    (h : WL (C.wg l) A env args ρ σ (fun vs σ1 => ∃ v xs, vs = [v] ∧ ObjAt (C.wg l) σ1 v (.list xs) ∧ K xs.length (fun i => xs.getD (xs.length - 1 - i) .none) (fun σ' => ObjAt (C.wg l) σ' v (.list xs)) σ1) E)
    (hns : noStar args = true := by rfl) : WItr (C.wg l) A env (.Call (.Name id p) args [] pos) ρ σ K E := by
  refine ⟨?_⟩
  intro ad s hr er
  refine wpAny_Call_Name_kw ?_
  have := (WE_glob (C := C) (A := A) (env := env) (ρ := ρ) (σ := σ) (E := E) (pos := p) (Q := fun v σ1 => v = .k (.type "reversed") ∧ σ1 = σ) hf ⟨rfl, rfl⟩).run ad s hr er
  refine wpAny_mono this ?_ fun _ _ x => x
  rintro u s1 ⟨ad1, σ1, v, n1, r1, rfl, rfl⟩
  cases r1
  refine callWith_gen (callable_type (C := C.wg l)) hns (wpAny_mono (h.run ad1 s1 pos n1.hr (er.next n1)) ?_ fun _ _ x => x)
  rintro us s2 ⟨ad2, σ2, vs, n2, r2, v, xs, rfl, b, hk⟩
  refine ⟨n2.hr.keep, ?_⟩
  have n12 := n1.trans n2
  rcases r2 with _ | ⟨rv, _ | _⟩
  obtain ⟨a, vs, rfl, hl, rvs⟩ := b.list n2.hr rv
  have hlen : vs.size = xs.length := by have := rvs.length; simp at this; omega
  refine call_reversed_list hl ?_
  have hit : (s2.heap.push (revObj a ((vs.size : Int) - 1))).IsRevIter s2.heap.objs.size a ((vs.size : Int) - 1) := ⟨_, Heap.get?_push_size _ rfl, rfl, rfl⟩
  refine wpAny_pyIter_revIter hit ?_
  have n3 := Nx.push (C := C.wg l) (s := s2) (revObj a ((vs.size : Int) - 1)) n2.hr
  refine ⟨ad2, σ2, xs.length, fun i => xs.getD (xs.length - 1 - i) .none, fun σ' => ObjAt (C.wg l) σ' v (.list xs), s2.heap.objs.size, fun i h => h.IsRevIter s2.heap.objs.size a ((xs.length : Int) - 1 - (i : Nat)), rfl, ?_, ?_, n12.size, (n2.hr.fresh (Nat.le_refl _)).2, n12.trans n3, hk⟩
  · refine ⟨?_, ?_, ?_, ?_, fun i s Q E st hQ => wpAny_pyIter_revIter st hQ, ?_⟩
    · rintro i h h' ⟨o, ho, r⟩ e
      exact ⟨o, by rw [e]; exact ho, r⟩
    · rintro i h ⟨o, ho, r⟩; exact ⟨o, ho⟩
    · rintro i ad' σ' s' Q E' hi ⟨nw, rfl⟩ hr' b' st hQ
      obtain ⟨a', vs', e, hl', rvs'⟩ := b'.list hr' (rv.mono (nw := nw))
      cases e
      obtain ⟨u, hu, ru⟩ := rvs'.getD (i := xs.length - 1 - i) (by omega)
      have e : (xs.length : Int) - 1 - (i : Int) = ((xs.length - 1 - i : Nat) : Int) := by omega
      have st' : s'.heap.IsRevIter s2.heap.objs.size a ((xs.length - 1 - i : Nat) : Int) := by rw [← e]; exact st
      refine wpAny_pyNext_rev_item st' hl' (x := u) (by rw [← Array.getElem?_toList]; exact hu) fun h' hit hs => hQ u h' s'.toks ru ?_ hs
      have e2 : ((xs.length - 1 - i : Nat) : Int) - 1 = (xs.length : Int) - 1 - ((i + 1 : Nat) : Int) := by omega
      rw [← e2]; exact hit
    · rintro ad' σ' s' Q E' ⟨nw, rfl⟩ hr' b' st hQ
      have e : (xs.length : Int) - 1 - (xs.length : Int) = -1 := by omega
      have st' : s'.heap.IsRevIter s2.heap.objs.size a (-1) := by rw [← e]; exact st
      exact wpAny_pyNext_rev_end hA st' fun h' he => hQ h' s'.toks fun b o hb e => he b o hb e
    · rintro i s' t u Q E' ⟨o, ho, hc, hd⟩ hq
      exact notOwned ho (by rw [hc, hd]; rfl) hq
  · show (s2.heap.push _).IsRevIter _ _ _
    have e : (xs.length : Int) - 1 - ((0 : Nat) : Int) = (vs.size : Int) - 1 := by omega
    rw [e]; exact hit
end
end Mine

-- part Aw14
set_option autoImplicit false
set_option linter.unusedVariables false
namespace Mine
open PySem PySem.W PyProof.Rows

section
variable {C : Cx} {A : Around} {env : Env} {ρ : Loc} {σ : AH} {E : EX} {Q : V → AH → Prop}
theorem Rd.ints {xs : List Int} : RdAll C σ (xs.map V.int) (xs.map PyData.int) := by
  induction xs with
  | nil => exact .nil
  | cons x r ih => exact .cons .int ih
theorem Rd.lst {v : V} {xs : List Int} (o : ObjAt C σ v (.list (xs.map V.int))) : Rd C σ v (.list (xs.map PyData.int)) := .list o Rd.ints
theorem eqv_ints (xs : List Int) : PyData.eqvAll (xs.map PyData.int) (xs.map PyData.int) = true := by
  induction xs with
  | nil => rfl
  | cons x r ih => simp [PyData.eqvAll, PyData.eqv, ih]
theorem canLay_ints (xs : List Int) : PyData.canLayAll0 (xs.map PyData.int) = true := by
  induction xs with
  | nil => rfl
  | cons x r ih => simp [PyData.canLayAll0, PyData.canLay0, ih]
theorem depth_ints (xs : List Int) : PyData.depthAll (xs.map PyData.int) ≤ 1 := by
  induction xs with
  | nil => simp [PyData.depthAll]
  | cons x r ih => simp [PyData.depthAll, PyData.depth]; omega
theorem shaped_ints (xs : List Int) : SeqAt.shaped (.list (xs.map PyData.int)) = true := by
  have := depth_ints xs
  simp [SeqAt.shaped, PyData.canLay0, canLay_ints, PyData.depth]; omega
end
end Mine

-- part Aw15
set_option autoImplicit false
set_option linter.unusedVariables false
namespace Mine
open PySem PySem.W PyProof.Rows

section
variable {C : Cx} {A : Around} {env : Env} {ρ : Loc} {σ : AH} {E : EX}
theorem foldl_rep (items : Array Value) : ∀ (n : Nat) (acc : Array Value), (List.foldl (fun x1 x2 => x1 ++ x2) acc (List.replicate n items)).toList = acc.toList ++ (List.replicate n items.toList).flatten
  | 0, acc => by simp
  | n + 1, acc => by
    rw [List.replicate_succ, List.foldl_cons, foldl_rep items n, List.replicate_succ, List.flatten_cons, Array.toList_append, List.append_assoc]
theorem RVs.rep {ad : List Addr} {v : List V} {x : List Value} (h : RVs ad v x) : ∀ n : Nat, RVs ad (List.replicate n v).flatten (List.replicate n x).flatten
  | 0 => .nil
  | n + 1 => by rw [List.replicate_succ, List.replicate_succ, List.flatten_cons, List.flatten_cons]; exact h.append (h.rep n)
theorem mul_li {j : Nat} {xs : List V} {x : Int} {Q : V → AH → Prop} (b : σ[j]? = some (.list xs)) (hlo : -(2 ^ 63 : Int) ≤ x) (hhi : x < 2 ^ 63) (hsz : xs.length * x.toNat ≤ 2 ^ 24)
    (h : Q (.ref σ.length) (σ ++ [.list (List.replicate x.toNat xs).flatten])) : WOp2 C A (binaryOp .Mult) (.ref j) (.int x) σ Q E := by
  refine ⟨?_⟩
  rintro ad s y z hr ⟨a, ha, rfl⟩ ⟨u, rfl⟩
  obtain ⟨ob, h1, vs, n, e2, rvs⟩ := hr.obj j _ a b ha
  subst e2
  have hlen : vs.size = xs.length := by have := rvs.length; simp at this; omega
  rw [← hlen] at hsz
  refine wpAny_binaryOp_repeat_ref (T := "list") (U := "int") (by decide) ⟨_, h1, rfl⟩ (fun s' => typeIs_int s' x u) noFill_list_mul F.fills_int_mul F.slot_int_rmul repeat_list F.slot_int_index.lookup
    (call_meets F.slot_int_rmul (typeIs_int s x u) F.entry_int_rmul (F.args_int_rmul_2 _ _) (int___rmul___int_list x u a vs n)
      ⟨h1, rfl, ⟨_, h1, rfl⟩, call_meets F.slot_list_mul ⟨_, h1, rfl⟩ F.entry_list_mul (F.args_list_mul_2 _ _)
        (AutoListH.list___mul___list_int_3 a vs n x u (by simp [Builtin.List.listFitsIndex]; omega) (by omega) (by simp [Builtin.List.listTooLong, sizeLine]; omega))
        ⟨h1, ?_⟩⟩)
  have ro : RVs ad (List.replicate x.toNat xs).flatten (List.foldl (fun x1 x2 => x1 ++ x2) #[] (List.replicate (if vs.isEmpty = true then 0 else x.toNat) vs)).toList := by
    rw [foldl_rep]
    by_cases he : vs.isEmpty = true
    · have hx : xs = [] := by
        have : vs.size = 0 := by simpa [Array.isEmpty] using he
        exact List.eq_nil_of_length_eq_zero (by omega)
      rw [if_pos he, hx]
      simp
      exact .nil
    · rw [if_neg he]
      exact rvs.rep _
  exact ⟨_, _, .ref σ.length, Nx.alloc hr (o := .list (List.replicate x.toNat xs).flatten) ⟨_, 0, rfl, ro⟩, RV.last hr.len.symm, h⟩
theorem rep_one {α : Type} (x : α) : ∀ n : Nat, (List.replicate n [x]).flatten = List.replicate n x
  | 0 => rfl
  | n + 1 => by rw [List.replicate_succ, List.flatten_cons, rep_one x n, List.replicate_succ]; rfl
end
end Mine

-- part Aw16
set_option autoImplicit false
set_option linter.unusedVariables false
namespace Mine
open PySem PySem.W PyProof.Rows

section
variable {C : Cx} {A : Around} {env : Env} {ρ : Loc} {σ : AH} {E : EX}
theorem WE.conseq {e : Expr} {Q Q' : V → AH → Prop} (h : WE C A env e ρ σ Q E) (hq : ∀ v σ1, Q v σ1 → Q' v σ1) : WE C A env e ρ σ Q' E := by
  refine ⟨?_⟩
  intro ad s hr er
  refine wpAny_mono (h.run ad s hr er) ?_ fun _ _ x => x
  rintro u s1 ⟨ad1, σ1, v, n1, r1, h1⟩
  exact ⟨ad1, σ1, v, n1, r1, hq _ _ h1⟩
/-- a comprehension of ints that makes nothing else -/
theorem CompGo_ints {l2 : List (Str × Value)} {sc : Scope} {x : Str} {elt : Expr} {capt : Loc} {K : List V → AH → Prop} {n : Nat} {P : Nat → V} {Cd : AH → Prop} {σ1 : AH} (f : Nat → Int) (hz : n ≤ sizeLine) (hcd : Cd σ1)
    (h : ∀ i pv, i < n → P i = pv → ∀ cenv, Kn cenv (relab sc.names) → WE (C.wg l2) A cenv elt ((x, some pv) :: capt) σ1 (fun v σ3 => v = .int (f i) ∧ σ3 = σ1) (fun _ _ => False))
    (hk : K (((List.range n).map f).map V.int) σ1) : CompGo C A l2 sc x [] elt capt K n P Cd σ1 := by
  refine ⟨hz, fun i acc σ' => σ' = σ1 ∧ acc = ((List.range i).map f).map V.int, ⟨rfl, rfl⟩, ?_, ?_⟩
  · rintro i acc σ' pv hi hp ⟨rfl, rfl⟩
    refine ⟨hcd, fun cenv hc => WIf_nil ?_⟩
    rw [if_pos rfl]
    refine (h i pv hi hp cenv hc).conseq ?_
    rintro v σ3 ⟨rfl, rfl⟩
    refine ⟨rfl, ?_⟩
    rw [List.range_succ]; simp
  · rintro acc σ' ⟨rfl, rfl⟩
    exact ⟨hcd, hk⟩
end
end Mine

-- part Aw17
set_option autoImplicit false
set_option linter.unusedVariables false
namespace Mine
open PySem PySem.W PyProof.Rows

section
variable {C : Cx} {A : Around} {env : Env} {ρ : Loc} {σ : AH} {E : EX}
theorem ObjAt.up {J : AH} {v : V} {o : O} (h : ObjAt C σ v o) : ObjAt C (σ ++ J) v o := by
  cases v with
  | ref j =>
    have h : σ[j]? = some o := h
    show (σ ++ J)[j]? = some o
    rw [List.getElem?_append_left (List.getElem?_eq_some_iff.mp h).1]; exact h
  | k x => cases x <;> exact h
  | _ => exact h.elim
end
end Mine

-- part Aw18
set_option autoImplicit false
set_option linter.unusedVariables false
namespace Mine
open PySem PySem.W PyProof.Rows

/- dicts whose keys are strs -/
noncomputable def putNs (k : Str) (v : V) : List (Str × V) → List (Str × V)
  | [] => [(k, v)]
  | (x, u) :: r => if x = k then (x, v) :: r else (x, u) :: putNs k v r
noncomputable def putEs (name : Str) (hs : Int) (key v : Value) : List DictEntry → List DictEntry
  | [] => [⟨hs, key, v⟩]
  | e :: r => if e.key.isStr name = true then { e with val := v } :: r else e :: putEs name hs key v r
theorem REs.length {P : Params} {ad : List Addr} {es : List (Str × V)} {ds : List DictEntry} (h : REs P ad es ds) : es.length = ds.length := by
  induction h with
  | nil => rfl
  | cons _ _ ih => simp [ih]
theorem putNs_len {k : Str} {v : V} : ∀ {es : List (Str × V)}, (putNs k v es).length ≤ es.length + 1
  | [] => by simp [putNs]
  | (x, u) :: r => by
    have := putNs_len (k := k) (v := v) (es := r)
    unfold putNs
    split <;> simp <;> omega
theorem REs.put {P : Params} {ad : List Addr} {es : List (Str × V)} {ds : List DictEntry} {k : Str} {v : V} {t : Tok} {x : Value} (h : REs P ad es ds) (rv : RV ad v x) : REs P ad (putNs k v es) (putEs k (PyData.keyHash P k) (.str k t) x ds) := by
  induction h with
  | nil => exact .cons rv .nil
  | @cons k' v' t' x' es ds r h' ih =>
    unfold putNs putEs
    by_cases hk : k' = k
    · subst hk
      rw [if_pos rfl, if_pos (by show (k' == k') = true; simp)]
      exact .cons rv h'
    · rw [if_neg hk, if_neg (by show ¬ (k' == k) = true; simp [hk])]
      exact .cons r ih
theorem findIdx_put (name : Str) (hs : Int) (key v : Value) : ∀ ds : List DictEntry, (match ds.findIdx? (fun e => e.key.isStr name) with | some i => ds.modify i (fun e => { e with val := v }) | none => ds ++ [⟨hs, key, v⟩]) = putEs name hs key v ds
  | [] => rfl
  | e :: r => by
    have ih := findIdx_put name hs key v r
    rw [List.findIdx?_cons]
    unfold putEs
    cases hb : e.key.isStr name with
    | true => simp
    | false =>
      cases hi : r.findIdx? (fun e => e.key.isStr name) with
      | none => rw [hi] at ih; simp at ih ⊢; exact ih
      | some i => rw [hi] at ih; simp at ih ⊢; exact ih
theorem putName_at {c : Value} {d : Option Addr} {es : Array DictEntry} {n : Nat} {sl : Array (Option Value)} {name : Str} {hs : Int} {key v : Value} :
    ∃ es' n', Obj.putName name hs key v ⟨c, d, .dict es n, sl⟩ = ⟨c, d, .dict es' n', sl⟩ ∧ es'.toList = putEs name hs key v es.toList := by
  have e := findIdx_put name hs key v es.toList
  have hi : es.findIdx? (fun e => e.key.isStr name) = es.toList.findIdx? (fun e => e.key.isStr name) := by obtain ⟨l⟩ := es; simp
  rw [Obj.putName_eq]
  unfold Obj.putNameByArray
  cases h : es.findIdx? (fun e => e.key.isStr name) with
  | some i =>
    rw [← hi, h] at e
    exact ⟨_, _, by simp only [h]; rfl, by rw [← e]; obtain ⟨l⟩ := es; simp⟩
  | none =>
    rw [← hi, h] at e
    exact ⟨_, _, by simp only [h]; rfl, by rw [← e]; obtain ⟨l⟩ := es; simp⟩
theorem REs.look {P : Params} {ad : List Addr} {es : List (Str × V)} {ds : List DictEntry} (h : REs P ad es ds) (k : Str) :
    (∀ v, es.lookup k = some v → ∃ e, ds.find? (fun e => e.key.isStr k) = some e ∧ RV ad v e.val) ∧ (es.lookup k = none → ds.find? (fun e => e.key.isStr k) = none) ∧ ds.any (·.refKey) = false := by
  induction h with
  | nil => exact ⟨by simp, by simp, rfl⟩
  | @cons k' v' t' x' es ds r h' ih =>
    obtain ⟨i1, i2, i3⟩ := ih
    have hb : (Value.isStr (.str k' t') k) = (k' == k) := rfl
    by_cases hk : k = k'
    · subst hk
      refine ⟨?_, ?_, ?_⟩
      · intro v hv
        rw [List.lookup_cons, beq_self_eq_true] at hv
        cases hv
        exact ⟨_, by rw [List.find?_cons]; show (match (Value.isStr (.str k t') k) with | true => _ | false => _) = _; rw [hb, beq_self_eq_true], r⟩
      · intro hv
        rw [List.lookup_cons, beq_self_eq_true] at hv
        cases hv
      · rw [List.any_cons, i3]; rfl
    · have e1 : (k == k') = false := by simp [hk]
      have e2 : (k' == k) = false := by simp [Ne.symm hk]
      refine ⟨?_, ?_, ?_⟩
      · intro v hv
        rw [List.lookup_cons, e1] at hv
        obtain ⟨e, h1, h2⟩ := i1 v hv
        exact ⟨e, by rw [List.find?_cons]; show (match (Value.isStr (.str k' t') k) with | true => _ | false => _) = _; rw [hb, e2]; exact h1, h2⟩
      · intro hv
        rw [List.lookup_cons, e1] at hv
        rw [List.find?_cons]; show (match (Value.isStr (.str k' t') k) with | true => _ | false => _) = _; rw [hb, e2]; exact i2 hv
      · rw [List.any_cons, i3]; rfl
theorem lookIn_some {P : Params} {ad : List Addr} {es : List (Str × V)} {ds : Array DictEntry} {c : Value} {d : Option Addr} {n : Nat} {sl : Array (Option Value)} {k : Str} {v : V} (h : REs P ad es ds.toList) (hv : es.lookup k = some v) :
    ∃ x, lookIn k ⟨c, d, .dict ds n, sl⟩ = some (some x) ∧ RV ad v x := by
  obtain ⟨e, he, re⟩ := (h.look k).1 v hv
  exact ⟨e.val, by unfold lookIn; simp only [he], re⟩
theorem lookIn_none {P : Params} {ad : List Addr} {es : List (Str × V)} {ds : Array DictEntry} {c : Value} {d : Option Addr} {n : Nat} {sl : Array (Option Value)} {k : Str} (h : REs P ad es ds.toList) (hv : es.lookup k = none) :
    lookIn k ⟨c, d, .dict ds n, sl⟩ = some none := by
  obtain ⟨_, h2, h3⟩ := h.look k
  unfold lookIn
  simp only [h2 hv]
  rw [if_neg (by rw [h3]; decide)]

/- classes -/
structure ClsOk (K : Frag) (Cl : Addr) : Prop where
  makes : makesIn K Cl = true
  ga : findIn K (.ref Cl) "__getattribute__" = some (some (.builtin "object.__getattribute__"))
  gx : findIn K (.ref Cl) "__getattr__" = some none
  sa : findIn K (.ref Cl) "__setattr__" = some (some (.builtin "object.__setattr__"))
  po : plainOver K Cl = true
  hd : (clsIn K Cl).any (·.hasDict) = true
theorem findObj_own {K : Frag} {Cl : Addr} {od : Obj} {name : Str} {x : Value} (hc : (clsIn K Cl).any (·.hasDict) = true) (hn : findIn K (.ref Cl) name = some none) (hl : lookIn name od = some (some x)) : findObj K Cl (some od) name = some (.value x) := by
  obtain ⟨cd, h1, h2⟩ := any_some hc
  unfold findObj PySem.W.ownOf
  rw [h1, hn]
  simp [h2, hl]
noncomputable def plainV : V → Bool
  | .k _ => false
  | _ => true
theorem handed_of {ad : List Addr} {v : V} {x : Value} (h : RV ad v x) (hp : plainV v = true) : handedIn x = true := by
  cases v with
  | none => cases h; rfl
  | bool b => cases h; rfl
  | int i => obtain ⟨t, rfl⟩ := h; rfl
  | str s => obtain ⟨t, rfl⟩ := h; rfl
  | bytes b => obtain ⟨t, rfl⟩ := h; rfl
  | ref i => obtain ⟨a, _, rfl⟩ := h; rfl
  | k v => cases hp

section
variable {C : Cx} {A : Around} {env : Env} {ρ : Loc} {σ : AH} {E : EX} {Q : V → AH → Prop}
theorem HR.inst {ad : List Addr} {h : Heap} {i d : Nat} {es : List (Str × V)} {Cl : Addr} {a : Addr} (hr : HR C ad σ h) (b : σ[i]? = some (.inst Cl d)) (bd : σ[d]? = some (.ns es)) (ha : ad[i]? = some a) :
    ∃ dA ds n, ad[d]? = some dA ∧ h.get? dA = some ⟨.type "dict", none, .dict ds n, #[]⟩ ∧ REs C.w.params ad es ds.toList ∧ PySem.W.InstAt h a ⟨.ref Cl, some dA, .plain, #[]⟩ Cl (some ⟨.type "dict", none, .dict ds n, #[]⟩) := by
  obtain ⟨ob, h1, dA, h2, rfl⟩ := hr.obj i _ a b ha
  obtain ⟨od, h3, ds, n, rfl, h4⟩ := hr.obj d _ dA bd h2
  exact ⟨dA, ds, n, h2, h3, h4, ⟨h1, rfl, rfl, h3⟩⟩

/- attributes -/
structure WAt (C : Cx) (A : Around) (v : V) (name : Str) (σ : AH) (Q : V → AH → Prop) (E : EX) : Prop where
  run : ∀ ad s x, HR C ad σ s.heap → RV ad v x → wpAny (model C.prog C.w) A (getAttr x name true) (PE C ad s Q) E s
theorem WE_attr {value : Expr} {attr : Str} {pos : Pos} (h : WE C A env value ρ σ (fun v σ1 => WAt C A v attr σ1 Q E) E) (hv : plainBase value = true := by rfl) : WE C A env (.Attribute value attr pos) ρ σ Q E := by
  refine ⟨?_⟩
  intro ad s hr er
  have e1 : attributeBase value attr env (eval value env) = eval value env := by cases value <;> first | rfl | cases hv
  refine Attribute_any_ (wpAny_mono (h.run ad s hr er) ?_ fun _ _ x => x) (by rw [arm_eval_Attribute, e1])
  rintro u s1 ⟨ad1, σ1, v, n1, r1, h1⟩
  exact wpAny_mono (h1.run ad1 s1 u n1.hr r1) (fun u s' p => PE.trans n1 p) fun _ _ x => x
theorem at_inst {K : Frag} {Cl : Addr} {i d : Nat} {es : List (Str × V)} {name : Str} {v : V} (X : K.In C.G) (ok : ClsOk K Cl) (hn : findIn K (.ref Cl) name = some none) (b : σ[i]? = some (.inst Cl d)) (bd : σ[d]? = some (.ns es))
    (hv : es.lookup name = some v) (hp : plainV v = true) (h : Q v σ) : WAt C A (.ref i) name σ Q E := by
  refine ⟨?_⟩
  rintro ad s x hr ⟨a, ha, rfl⟩
  obtain ⟨dA, ds, n, h2, h3, h4, I⟩ := hr.inst b bd ha
  obtain ⟨x, hx, rx⟩ := lookIn_some (c := .type "dict") (d := none) (n := n) (sl := #[]) h4 hv
  exact get_value (X.keeps hr.keep) I ok.ga (findObj_own ok.hd hn hx) (handed_of rx hp) (PE.tok _ hr rx h)
theorem WM_inst {K : Frag} {Cl : Addr} {i d : Nat} {es : List (Str × V)} {name : Str} {f : Addr} {KK : Value → List V → AH → Prop} (X : K.In C.G) (ok : ClsOk K Cl) (hf : findIn K (.ref Cl) name = some (some (.ref f))) (ht : typeIn K (.ref f) = some (.type "function"))
    (b : σ[i]? = some (.inst Cl d)) (bd : σ[d]? = some (.ns es)) (hs : es.lookup name = none) (h : KK (.ref f) [.ref i] σ) : WM C A (.ref i) name σ KK E := by
  refine ⟨?_⟩
  rintro ad s x pl hr ⟨a, ha, rfl⟩
  obtain ⟨dA, ds, n, h2, h3, h4, I⟩ := hr.inst b bd ha
  have hx := lookIn_none (c := .type "dict") (d := none) (n := n) (sl := #[]) h4 hs
  refine method_fn (X.keeps hr.keep) I ok.ga ok.gx hf ht (by unfold shadowIn; simp only [hx]; rfl) ⟨ad, σ, [.ref i], Nx.refl hr, .cons ⟨a, ha, rfl⟩ .nil, h⟩

/- stores to attributes -/
structure WSt (C : Cx) (A : Around) (v : V) (name : Str) (x : V) (σ : AH) (Q : AH → Prop) (E : EX) : Prop where
  run : ∀ ad s vx xx, HR C ad σ s.heap → RV ad v vx → RV ad x xx → wpAny (model C.prog C.w) A (setAttr vx name xx) (fun _ s' => ∃ ad' σ', Nx C [] ad s ad' σ' s' ∧ Q σ') E s
theorem WS_setattr {o e : Expr} {attr : Str} {p pos : Pos} {Q : Fl → Loc → AH → Prop} (h : WE C A env e ρ σ (fun x σ1 => WE C A env o ρ σ1 (fun v σ2 => WSt C A v attr x σ2 (fun σ3 => Q .next ρ σ3) E) E) E)
    (hs : isCompE e = false := by rfl) : WS C A env (.Assign [.Attribute o attr p] e pos) ρ σ Q E := by
  refine ⟨?_⟩
  intro ad s hr er
  refine plainObj_wpAny_Assign_Attribute (wpAny_mono (h.run ad s hr er) ?_ fun _ _ x => x) (swaps_not hs)
  rintro x s1 ⟨ad1, σ1, vx, n1, r1, h1⟩
  refine wpAny_mono (h1.run ad1 s1 n1.hr (er.next n1)) ?_ fun _ _ x => x
  rintro ov s2 ⟨ad2, σ2, vo, n2, r2, h2⟩
  refine wpAny_mono (h2.run ad2 s2 ov x n2.hr r2 (n2.rv r1)) ?_ fun _ _ x => x
  rintro _ s3 ⟨ad3, σ3, n3, h3⟩
  exact PS.ofE er (n1.trans (n2.trans n3)) (fl := .next) rfl h3
theorem set_inst {K : Frag} {Cl : Addr} {i d : Nat} {es : List (Str × V)} {name : Str} {x : V} {Q : AH → Prop} (X : K.In C.G) (ok : ClsOk K Cl) (ht : takerIn K Cl name = some none) (b : σ[i]? = some (.inst Cl d)) (bd : σ[d]? = some (.ns es))
    (hz : es.length ≤ sizeLine) (h : Q (σ.set d (.ns (putNs name x es)))) : WSt C A (.ref i) name x σ Q E := by
  refine ⟨?_⟩
  rintro ad s vx xx hr ⟨a, ha, rfl⟩ rx
  obtain ⟨dA, ds, n, h2, h3, h4, I⟩ := hr.inst b bd ha
  have X' := X.keeps hr.keep
  refine set_plain X' I ok.sa ?_
  refine osa_open (s := { s with toks := s.toks + 1 }) X' I ok.po ht fun bb => ?_
  obtain ⟨cd, hc, hd'⟩ := any_some ok.hd
  obtain ⟨ds', n', e', hl'⟩ := putName_at (c := .type "dict") (d := none) (es := ds) (n := n) (sl := #[]) (name := name) (hs := PyData.keyHash C.w.params name) (key := .str name (s.toks + 1)) (v := xx)
  refine wpAny_bind (wpAny_pure (wpAny_bind (wpAny_bind (wpAny_loadPart I.at_ (wpAny_bind (Looks.here (s := { s with toks := s.toks + 1 }) (looks_clsIn X' hc) ?_))))))
  rw [hd']
  refine wpAny_pure (a := some dA) (wpAny_bind (wpAny_pure (wpAny_bind ?_)))
  unfold nsSet
  refine wpAny_bind (wpAny_bind (wpAny_askSetting (wpAny_pure (wpAny_bind (wpAny_mkText (wpAny_bind (wpAny_loadPart h3 ?_)))))))
  dsimp only
  have c0 : (!ds.any (·.key.isStr name) && ds.any (·.refKey)) = false := by
    rw [← Array.any_toList, ← Array.any_toList, (h4.look name).2.2, Bool.and_false]
  rw [aRefKeyMayBeTheName_at, c0]
  refine wpAny_updatePart h3 ?_
  have D' := Heap.get?_update_self (Obj.putName name (PyData.keyHash C.w.params name) (.str name (s.toks + 1)) xx) h3 (by rw [e']; rfl)
  rw [e'] at D'
  have hsz : ds'.size ≤ sizeLine + 1 := by
    have r1 := (h4.put (k := name) (t := s.toks + 1) rx).length
    rw [← hl'] at r1
    have e3 : ds'.toList.length = ds'.size := Array.length_toList
    have := putNs_len (k := name) (v := x) (es := es)
    omega
  refine wpAny_bind (wpAny_lookBehind D' (pastItsLine_dict hsz) ?_)
  exact wpAny_pure ⟨ad, _, Nx.set (o := .ns (putNs name x es)) hr h2 (Heap.SameBut.update ..) D' ⟨ds', n', rfl, by rw [hl']; exact h4.put rx⟩, h⟩

/- a class called -/
theorem WC_new {K : Frag} {Cl fI : Addr} {vs : List V} (X : K.In C.G) (ok : ClsOk K Cl) (hi : findIn K (.ref Cl) "__init__" = some (some (.ref fI))) (hf : typeIn K (.ref fI) = some (.type "function"))
    (h : ∀ xs, WCc C (A.under (.builtin "type.__call__" ⟨.ref Cl :: xs, []⟩)) (.ref fI) (.ref (σ.length + 1) :: vs) (σ ++ [.ns []] ++ [.inst Cl σ.length]) (fun v σ' => v = .none ∧ Q (.ref (σ.length + 1)) σ') E) : WC C A (.ref Cl) vs σ Q E := by
  refine ⟨?_⟩
  rintro ad ⟨hh, g, dr, t, os⟩ xs hr rv
  have X' := X.keeps hr.keep
  refine wpAny_call (make_core (makes_of X' ok.makes) (looks_findIn X' hi) (fun self => bind_fn X' self hf) (.inl rfl) ?_)
  have n1 := Nx.alloc (s := ⟨hh, g, dr, t, os⟩) (o := .ns []) (ob := emptyDict) hr ⟨#[], 0, rfl, .nil⟩
  have n2 := Nx.alloc (o := .inst Cl σ.length) (ob := instObj Cl hh.objs.size) n1.hr ⟨hh.objs.size, by rw [← hr.len]; simp, rfl⟩
  have n12 := n1.trans n2
  have hsz : (hh.push emptyDict).objs.size = hh.objs.size + 1 := Heap.size_push ..
  have rx : RV (ad ++ [hh.objs.size] ++ [hh.objs.size + 1]) (.ref (σ.length + 1)) (.ref (hh.objs.size + 1)) := ⟨_, by rw [← hr.len]; simp, rfl⟩
  have e2 : (ad ++ [hh.objs.size] ++ [(hh.push emptyDict).objs.size]) = ad ++ [hh.objs.size] ++ [hh.objs.size + 1] := by rw [hsz]
  simp only [hsz] at n12 n2
  refine codeAny_mono ((h _).run _ _ _ n2.hr (.cons rx (n12.rvs rv))) fun r s' z => ?_
  rcases r with e | (v | _ | _ | _) <;> first | exact z | exact z.elim | skip
  obtain ⟨ad', σ', v', n3, r3, rfl, hq⟩ := z
  cases r3
  exact ⟨rfl, ad', σ', _, n12.trans n3, n3.rv rx, hq⟩
end
end Mine

-- part Aw19
set_option autoImplicit false
set_option linter.unusedVariables false
namespace Mine
open PySem PySem.W PyProof.Rows

theorem RVs.set {ad : List Addr} {xs : List V} {vs : List Value} {x : V} {u : Value} (h : RVs ad xs vs) (r : RV ad x u) : ∀ i : Nat, RVs ad (xs.set i x) (vs.set i u) := by
  induction h with
  | nil => intro i; exact .nil
  | cons a h' ih =>
    intro i
    cases i with
    | zero => exact .cons r h'
    | succ i => exact .cons a (ih i)
section
variable {prog : Program} {w : World} {A : Around} {E : Value → Shared → Prop} {s : Shared}
theorem setItem_plain {l : Addr} {items : Array Value} {n : Nat} {k : Int} {t : Tok} {v : Value} {Q : Unit → Shared → Prop} (ho : s.heap.get? l = some ⟨.type "list", none, .seq items n, #[]⟩) (h0 : 0 ≤ k) (hfit : k < 2 ^ 63) (hn : k < items.size)
    (hQ : ∀ h' n', h'.get? l = some ⟨.type "list", none, .seq (items.setIfInBounds k.toNat v) n', #[]⟩ → Heap.SameBut l s.heap h' → Q () { s with heap := h' }) :
    wpAny (model prog w) A (setItem (.ref l) (.int k t) v) Q E s := by
  have hl : s.heap.IsList l items := ⟨_, ho, rfl, n, rfl⟩
  have hd : (⟨.type "list", none, .seq items n, #[]⟩ : Obj).data = .seq items n := rfl
  unfold setItem
  try with_reducible refine wpAny_holding ?_
  first | refine wpAny_bind (wpAny_pure ?_) | skip
  refine wpAny_bind (wpAny_sequenceKey hl.typeIs (by decide) ?_)
  refine wpAny_bind (wpAny_callSpecial?_slot (name := Str.ofString "__setitem__") hl.typeIs PySem.slot_list_setitem
    (wpAny_call_entry PySem.slot_list_setitem hl.typeIs PySem.entry_list_setitem ?_ (PySem.args_list_setitem _ _ _)))
  show wpAny _ _ (Builtin.List.listSubscript? (.int k t) >>= _) _ _ s
  refine wpAny_bind (wpAny_listSubscript_int (fitsIndex_of h0 hfit) ?_)
  clear hfit
  obtain ⟨j, rfl⟩ := Int.eq_ofNat_of_zero_le h0
  have hj : j < items.size := by omega
  have hx' : items[j]? = some items[j] := Array.getElem?_eq_getElem hj
  show wpAny _ _ ((seqItemAt l j >>= fun r => pure (r.map (j, ·))) >>= _) _ _ s
  refine wpAny_bind (wpAny_bind (wpAny_seqItemAt ho hd (wpAny_pure ?_)))
  rw [hx']
  show wpAny _ _ (setSeqItemAt l j v >>= _) _ _ s
  obtain ⟨n', hd'⟩ : ∃ n', Obj.mapSeq (·.setIfInBounds j v) ⟨.type "list", none, .seq items n, #[]⟩ = ⟨.type "list", none, .seq (items.setIfInBounds j v) n', #[]⟩ := ⟨_, rfl⟩
  have hfin := Heap.get?_update_self (Obj.mapSeq (·.setIfInBounds j v)) ho (by rw [hd']; rfl)
  rw [hd'] at hfin
  refine wpAny_bind (wpAny_setSeqItemAt ho hd ?_)
  first
    | exact wpAny_bind (wpAny_pure (wpAny_pure ⟨.none, rfl, wpAny_pure (hQ _ n' hfin (Heap.SameBut.update ..))⟩))
    | exact wpAny_pure ⟨.none, rfl, wpAny_pure (hQ _ n' hfin (Heap.SameBut.update ..))⟩
end

/- dicts -/
inductive RKs (ad : List Addr) : List (Str × V) → List (Str × Value) → Prop
  | nil : RKs ad [] []
  | cons {k : Str} {v : V} {x : Value} {es : List (Str × V)} {kvs : List (Str × Value)} : RV ad v x → RKs ad es kvs → RKs ad ((k, v) :: es) ((k, x) :: kvs)
theorem RKs.names {ad : List Addr} {es : List (Str × V)} {kvs : List (Str × Value)} (h : RKs ad es kvs) : kvs.map (·.1) = es.map (·.1) := by
  induction h with
  | nil => rfl
  | cons _ _ ih => simp [ih]
theorem RKs.at {ad : List Addr} {es : List (Str × V)} {kvs : List (Str × Value)} (h : RKs ad es kvs) (k : Str) : (∀ v, es.lookup k = some v → ∃ x, valueAt kvs k = some x ∧ RV ad v x) ∧ (es.lookup k = none → valueAt kvs k = none) := by
  induction h with
  | nil => exact ⟨by simp, fun _ => rfl⟩
  | @cons k' v' x' es kvs r h' ih =>
    unfold valueAt at ih ⊢
    by_cases hk : k = k'
    · subst hk
      refine ⟨fun v hv => ?_, fun hv => ?_⟩
      · rw [List.lookup_cons, beq_self_eq_true] at hv
        cases hv
        exact ⟨x', by rw [List.find?_cons]; simp, r⟩
      · rw [List.lookup_cons, beq_self_eq_true] at hv
        cases hv
    · have e1 : (k == k') = false := by simp [hk]
      have e2 : decide (k' = k) = false := by simp [Ne.symm hk]
      refine ⟨fun v hv => ?_, fun hv => ?_⟩
      · rw [List.lookup_cons, e1] at hv
        rw [List.find?_cons, e2]
        exact ih.1 v hv
      · rw [List.lookup_cons, e1] at hv
        rw [List.find?_cons, e2]
        exact ih.2 hv
theorem REs.keys {prog : Program} {w : World} {ad : List Addr} {es : List (Str × V)} {ds : List DictEntry} (h : REs w.params ad es ds) : ∀ e ∈ ds, ∃ k, (strKind prog w).is k e.key = true ∧ e.hash = (strKind prog w).hash k := by
  induction h with
  | nil => intro e he; cases he
  | @cons k v t x es ds r h' ih =>
    intro e he
    rcases List.mem_cons.mp he with rfl | he
    · exact ⟨k, strKind_is .., rfl⟩
    · exact ih e he
theorem REs.pairs {prog : Program} {w : World} {ad : List Addr} {es : List (Str × V)} {ds : List DictEntry} (h : REs w.params ad es ds) : ∃ kvs, Pairs (strKind prog w) ds kvs ∧ RKs ad es kvs := by
  induction h with
  | nil => exact ⟨[], .nil, .nil⟩
  | @cons k v t x es ds r h' ih =>
    obtain ⟨kvs, h1, h2⟩ := ih
    exact ⟨(k, x) :: kvs, .cons (strKind_is ..) rfl h1, .cons r h2⟩
theorem REs.of {prog : Program} {w : World} {ad : List Addr} {ds : List DictEntry} {kvs : List (Str × Value)} (hp : Pairs (strKind prog w) ds kvs) : ∀ {es : List (Str × V)}, (∀ e ∈ ds, ∃ k, (strKind prog w).is k e.key = true ∧ e.hash = (strKind prog w).hash k) → RKs ad es kvs → REs w.params ad es ds := by
  induction hp with
  | nil => intro es _ h; cases h; exact .nil
  | @cons e kv ds kvs h1 h2 _ ih =>
    intro es hk h
    cases h with
    | @cons k v x es kvs rv h' =>
      obtain ⟨k2, h3, h4⟩ := hk e (.head _)
      have := Value.isStrOf_inj _ _ _ h1 h3
      subst this
      obtain ⟨t, ht⟩ := Value.isStrOf_shape h1
      obtain ⟨hsh, key, val⟩ := e
      dsimp only at h2 h4 ht
      subst h2 h4 ht
      exact .cons rv (ih (fun e he => hk e (.tail _ he)) h')

section
variable {C : Cx} {A : Around} {env : Env} {ρ : Loc} {σ : AH} {E : EX} {Q : V → AH → Prop}
theorem HR.dict {ad : List Addr} {h : Heap} {j : Nat} {es : List (Str × V)} {a : Addr} (hr : HR C ad σ h) (b : σ[j]? = some (.ns es)) (nd : (es.map (·.1)).Nodup) (ha : ad[j]? = some a) :
    ∃ kvs, h.DictOf (strKind C.prog C.w) a kvs ∧ RKs ad es kvs ∧ (a == sysModules) = false := by
  obtain ⟨od, h3, ds, n, rfl, h4⟩ := hr.obj j _ a b ha
  obtain ⟨kvs, hp, hk⟩ := h4.pairs (prog := C.prog) (w := C.w)
  refine ⟨kvs, ⟨_, ds, n, h3, ⟨rfl, rfl, rfl⟩, rfl, fun e he => h4.keys e (Array.mem_toList_iff.mpr he), hp, by rw [hk.names]; exact nd⟩, hk, ?_⟩
  exact beq_eq_false_iff_ne.mpr (hr.low a (List.mem_of_getElem? ha))
theorem item_dict {value slice : Expr} {j : Nat} {es : List (Str × V)} {k : Str} {v : V} (b : σ[j]? = some (.ns es)) (nd : (es.map (·.1)).Nodup) (hv : es.lookup k = some v) (h : Q v σ)
    (hs : isSliceE slice = false := by rfl) : WSub C A value slice (.ref j) (.str k) σ Q E := by
  refine ⟨?_⟩
  rintro ad s y z hr ⟨a, ha, rfl⟩ ⟨t, rfl⟩
  obtain ⟨kvs, D, hk, lo⟩ := hr.dict b nd ha
  obtain ⟨x, hx, rx⟩ := (hk.at k).1 v hv
  exact tail_any D.typeIs slot_dict_getitem.lookup (wpAny_getItem_of (strKind_is ..) D.mapOf hx (PE.tok _ hr rx h)) (slice_not hs _ _)
/- stores to items -/
structure WSi (C : Cx) (A : Around) (o i x : V) (σ : AH) (Q : AH → Prop) (E : EX) : Prop where
  run : ∀ ad s vo vi vx, HR C ad σ s.heap → RV ad o vo → RV ad i vi → RV ad x vx → wpAny (model C.prog C.w) A (setItem vo vi vx) (fun _ s' => ∃ ad' σ', Nx C [] ad s ad' σ' s' ∧ Q σ') E s
theorem WS_setitem {o i e : Expr} {p pos : Pos} {Q : Fl → Loc → AH → Prop} (h : WE C A env e ρ σ (fun x σ1 => WE C A env o ρ σ1 (fun v σ2 => WE C A env i ρ σ2 (fun k σ3 => WSi C A v k x σ3 (fun σ4 => Q .next ρ σ4) E) E) E) E)
    (hs : isCompE e = false := by rfl) : WS C A env (.Assign [.Subscript o i p] e pos) ρ σ Q E := by
  refine ⟨?_⟩
  intro ad s hr er
  refine wpAny_Assign_Subscript (wpAny_mono (h.run ad s hr er) ?_ fun _ _ x => x) (swaps_not hs)
  rintro x s1 ⟨ad1, σ1, vx, n1, r1, h1⟩
  refine wpAny_mono (h1.run ad1 s1 n1.hr (er.next n1)) ?_ fun _ _ x => x
  rintro ov s2 ⟨ad2, σ2, vo, n2, r2, h2⟩
  refine wpAny_mono (h2.run ad2 s2 n2.hr ((er.next n1).next n2)) ?_ fun _ _ x => x
  rintro iv s3 ⟨ad3, σ3, vi, n3, r3, h3⟩
  refine wpAny_mono (h3.run ad3 s3 ov iv x n3.hr (n3.rv r2) r3 (n3.rv (n2.rv r1))) ?_ fun _ _ x => x
  rintro _ s4 ⟨ad4, σ4, n4, h4⟩
  exact PS.ofE er (n1.trans (n2.trans (n3.trans n4))) (fl := .next) rfl h4
theorem seti_list {j : Nat} {xs : List V} {k : Int} {x : V} {Q : AH → Prop} (b : σ[j]? = some (.list xs)) (h0 : 0 ≤ k) (hf : k < 2 ^ 63) (hn : k < xs.length) (h : Q (σ.set j (.list (xs.set k.toNat x)))) : WSi C A (.ref j) (.int k) x σ Q E := by
  refine ⟨?_⟩
  rintro ad s vo vi vx hr ⟨a, ha, rfl⟩ ⟨t, rfl⟩ rx
  obtain ⟨ob, h1, vs, n, rfl, rvs⟩ := hr.obj j _ a b ha
  have hlen : vs.size = xs.length := by have := rvs.length; simp at this; omega
  refine setItem_plain h1 h0 hf (by omega) fun h' n' hg hs => ⟨ad, _, Nx.set (tk := s.toks) (o := .list (xs.set k.toNat x)) hr ha hs hg ⟨_, n', rfl, ?_⟩, h⟩
  rw [Array.toList_setIfInBounds]
  exact rvs.set rx _
/- ints -/
theorem WE_globi {C : Cx} {l : List (Str × Value)} {x : Str} {pos : Pos} {i : Int} {t : Tok} {Q : V → AH → Prop} (hx : (x, Value.int i t) ∈ l) (h : Q (.int i) σ) : WE (C.wg l) A env (.Name x pos) ρ σ Q E := by
  refine ⟨?_⟩
  intro ad s hr er
  have := (WE_glob (C := C) (A := A) (env := env) (ρ := ρ) (σ := σ) (E := E) (pos := pos) (Q := fun v σ1 => v = .k (.int i t) ∧ σ1 = σ) hx ⟨rfl, rfl⟩).run ad s hr er
  refine wpAny_mono this ?_ fun _ _ x => x
  rintro u s1 ⟨ad1, σ1, v, n1, r1, rfl, rfl⟩
  cases r1
  exact ⟨ad1, _, .int i, n1, ⟨t, rfl⟩, h⟩
end
end Mine

-- part Aw20
set_option autoImplicit false
set_option linter.unusedVariables false
namespace Mine
open PySem PySem.W PyProof.Rows

/- the frames around -/
noncomputable def frs (l : List Env) : List Addr := l.filterMap (·.frame)
noncomputable def Frs (C : Cx) (ad : List Addr) (h : Heap) (l : List Env) : Prop := ∀ env ∈ l, env.scope.kind ≠ .module ∧ ∃ L o, env.frame = some L ∧ C.G.get? L = none ∧ L ∉ ad ∧ h.get? L = some o ∧ ∀ vs, o.data ≠ .fields vs
section
variable {C : Cx} {A : Around} {env : Env} {ρ : Loc} {σ : AH} {E : EX}
theorem Nx.notin {ch ad ad1 : List Addr} {σ1 : AH} {s s1 : Shared} (n : Nx C ch ad s ad1 σ1 s1) {b : Addr} {o : Obj} (e : s.heap.get? b = some o) (hb : b ∉ ad) : b ∉ ad1 := by
  obtain ⟨nw, e1, hn⟩ := n.pre
  rw [e1]; intro hm
  rcases List.mem_append.mp hm with hm | hm
  · exact hb hm
  · exact absurd (Heap.lt_size e) (Nat.not_lt.mpr (hn b hm))
/-- an exception of the class at PC on its way through the frames l -/
structure Fly (C : Cx) (ch : List Addr) (l : List Env) (PC : Addr) (ad : List Addr) (s : Shared) (ad' : List Addr) (σ' : AH) (x : Addr) (s' : Shared) : Prop where
  eq : ∃ h tk, s' = { s with heap := h, toks := tk }
  pre : ∃ nw, ad' = ad ++ nw ∧ ∀ a ∈ nw, s.heap.objs.size ≤ a
  size : s.heap.objs.size ≤ s'.heap.objs.size
  fl : ∃ B a0, Heap.FlyingW B l x (.ref PC) a0 s'.heap ∧ HR C ad' σ' B ∧ ∀ b o, s.heap.get? b = some o → b ∉ ad → b ∉ ch → b ∉ frs l → B.get? b = some o
  up : ∀ b ∈ frs l, ∀ o, s.heap.get? b = some o → b ∉ ch → ∃ sl, s'.heap.get? b = some { o with slots := sl }
/- what raises for sure -/
structure RC (C : Cx) (A : Around) (f : Value) (vs : List V) (σ : AH) (PC : Addr) (X : AH → Prop) : Prop where
  run : ∀ ad s xs l, A.frames = some l → Frs C ad s.heap l → HR C ad σ s.heap → RVs ad vs xs → wpAny (model C.prog C.w) A (call f xs) (fun _ _ => False) (fun e s' => ∃ ad' σ' x, e = .ref x ∧ X σ' ∧ Fly C [] l PC ad s ad' σ' x s') s
structure RCc (C : Cx) (A : Around) (f : Value) (vs : List V) (σ : AH) (PC : Addr) (X : AH → Prop) : Prop where
  run : ∀ ad s xs l, A.frames = some l → Frs C ad s.heap l → HR C ad σ s.heap → RVs ad vs xs → codeAny (model C.prog C.w) A (.call f ⟨xs, []⟩) (fun r s' => match r with | .ok _ => False | .error e => ∃ ad' σ' x, e = .ref x ∧ X σ' ∧ Fly C [] l PC ad s ad' σ' x s') s
structure Fx (C : Cx) (A : Around) (env : Env) (outer : List Env) (ad : List Addr) (h : Heap) : Prop where
  st : A.frames = some (env :: outer)
  fr : env.frame = some env.locals
  ou : Frs C ad h outer
  ap : ∀ b ∈ frs outer, b ∉ fa env
structure RE (C : Cx) (A : Around) (env : Env) (e : Expr) (ρ : Loc) (σ : AH) (PC : Addr) (X : AH → Prop) : Prop where
  run : ∀ ad s outer, Fx C A env outer ad s.heap → HR C ad σ s.heap → ER C env ρ ad s.heap → wpAny (model C.prog C.w) A (eval e env) (fun _ _ => False) (fun e s' => ∃ ad' σ' x, e = .ref x ∧ X σ' ∧ Fly C [] (env :: outer) PC ad s ad' σ' x s') s
/-- made in this frame, not yet on its way -/
noncomputable def Mk (C : Cx) (env : Env) (PC : Addr) (ad : List Addr) (s : Shared) (ad' : List Addr) (σ' : AH) (x : Addr) (s' : Shared) : Prop :=
  s.heap.objs.size ≤ s'.heap.objs.size ∧ ∃ s2 vs, Nx C (fa env) ad s ad' σ' s2 ∧ (∃ o, s2.heap.get? env.locals = some o ∧ ∀ vs, o.data ≠ .fields vs) ∧ Heap.MadeExcOf s2.heap s'.heap x (.ref PC) vs ∧ ∃ h', s' = { s2 with heap := h' }
noncomputable def PX (C : Cx) (env : Env) (outer : List Env) (mk : Bool) (PC : Addr) (X : Loc → AH → Prop) (ad : List Addr) (s : Shared) : EX :=
  fun e s' => ∃ ad' σ' ρ' x, e = .ref x ∧ X ρ' σ' ∧ ((Fly C (fa env) (env :: outer) PC ad s ad' σ' x s' ∧ ER C env ρ' ad' s'.heap) ∨ (mk = true ∧ Mk C env PC ad s ad' σ' x s'))
structure RS (C : Cx) (A : Around) (env : Env) (st : Stmt) (ρ : Loc) (σ : AH) (mk : Bool) (PC : Addr) (X : Loc → AH → Prop) : Prop where
  run : ∀ ad s outer, Fx C A env outer ad s.heap → HR C ad σ s.heap → ER C env ρ ad s.heap → wpAny (model C.prog C.w) A (exec st env) (fun _ _ => False) (PX C env outer mk PC X ad s) s
structure RSs (C : Cx) (A : Around) (env : Env) (st : List Stmt) (ρ : Loc) (σ : AH) (mk : Bool) (PC : Addr) (X : Loc → AH → Prop) : Prop where
  run : ∀ ad s outer, Fx C A env outer ad s.heap → HR C ad σ s.heap → ER C env ρ ad s.heap → wpAny (model C.prog C.w) A (execs st env) (fun _ _ => False) (PX C env outer mk PC X ad s) s
end
end Mine

-- part Aw21
set_option autoImplicit false
set_option linter.unusedVariables false
namespace Mine
open PySem PySem.W PyProof.Rows

section
variable {C : Cx} {A : Around} {env : Env} {ρ : Loc} {σ : AH} {E : EX}
abbrev EF : EX := fun _ _ => False
/-- a call with arguments as a method's base -/
noncomputable def callBase : Expr → Bool
  | .Call _ [] _ _ => false
  | _ => true
/- statements that raise -/
structure ThR (C : Cx) (A : Around) (env : Env) (rest : List Stmt) (mk : Bool) (PC : Addr) (X : Loc → AH → Prop) (fl : Fl) (ρ : Loc) (σ : AH) : Prop where
  run : match fl with
    | .next => RSs C A env rest ρ σ mk PC X
    | _ => False
end
end Mine

-- part Aw22
set_option autoImplicit false
set_option linter.unusedVariables false
namespace Mine
open PySem PySem.W PyProof.Rows

section
variable {C : Cx} {A : Around} {env : Env} {ρ : Loc} {σ : AH} {E : EX} {Q : V → AH → Prop}
theorem WC_typeI {i : Int} (h : Q (.k (.type "int")) σ) : WC C A (.type "type") [.int i] σ Q E := by
  refine ⟨?_⟩
  rintro ad s us hr (_ | ⟨⟨t, rfl⟩, _ | _⟩)
  exact call_type_of (typeIs_int _ _ _) (by decide) (PE.here (v := .k (.type "int")) hr rfl h)
theorem isNot_self_k {T : String} (h : Q (.bool false) σ) : WOp2 C A (compareOp .IsNot) (.k (.type T)) (.k (.type T)) σ Q E := by
  refine ⟨?_⟩
  rintro ad s x y hr rfl rfl
  exact wpAny_isNot_self rfl (PE.here (v := .bool false) hr rfl h)
end
end Mine

-- part Aw23
set_option autoImplicit false
set_option linter.unusedVariables false
namespace Mine
open PySem PySem.W PyProof.Rows

section
variable {prog : Program} {w : World} {A : Around} {E : Value → Shared → Prop} {s : Shared}
end
section
variable {C : Cx} {A : Around} {env : Env} {ρ : Loc} {σ : AH} {E : EX} {Q : V → AH → Prop}
theorem swaps_attr {e o : Expr} {a : Str} {p : Pos} {l : Nat} {env : Env} : swapsWith e (some (.Attribute o a p)) l env = pure false := by
  cases e <;> rfl
theorem WS_setattrC {o e : Expr} {attr : Str} {p pos : Pos} {Q : Fl → Loc → AH → Prop} (h : WE C A env e ρ σ (fun x σ1 => WE C A env o ρ σ1 (fun v σ2 => WSt C A v attr x σ2 (fun σ3 => Q .next ρ σ3) E) E) E) : WS C A env (.Assign [.Attribute o attr p] e pos) ρ σ Q E := by
  refine ⟨?_⟩
  intro ad s hr er
  refine plainObj_wpAny_Assign_Attribute (wpAny_mono (h.run ad s hr er) ?_ fun _ _ x => x) swaps_attr
  rintro x s1 ⟨ad1, σ1, vx, n1, r1, h1⟩
  refine wpAny_mono (h1.run ad1 s1 n1.hr (er.next n1)) ?_ fun _ _ x => x
  rintro ov s2 ⟨ad2, σ2, vo, n2, r2, h2⟩
  refine wpAny_mono (h2.run ad2 s2 ov x n2.hr r2 (n2.rv r1)) ?_ fun _ _ x => x
  rintro _ s3 ⟨ad3, σ3, n3, h3⟩
  exact PS.ofE er (n1.trans (n2.trans n3)) (fl := .next) rfl h3
end
end Mine

-- part Aw24
set_option autoImplicit false
set_option linter.unusedVariables false
namespace Mine
open PySem PySem.W PyProof.Rows

theorem get_mid {σ J : AH} {o : O} {n : Nat} (e : n = σ.length) : (σ ++ [o] ++ J)[n]? = some o := by
  subst e; rw [List.append_assoc, List.getElem?_append_right (Nat.le_refl _)]; simp
theorem set_mid {σ J : AH} {o o' : O} {n : Nat} (e : n = σ.length) : (σ ++ [o] ++ J).set n o' = σ ++ [o'] ++ J := by
  subst e; rw [List.append_assoc, List.set_append_right _ _ (Nat.le_refl _)]; simp
theorem exNat {n : Nat} {P : Nat → Prop} (h : P n) : ∃ m : Nat, [V.int n] = [V.int m] ∧ P m := ⟨n, rfl, h⟩
theorem rngSize0 (n : Nat) : (Builtin.Range.rangeSize 0 n 1).toNat = n := by
  unfold Builtin.Range.rangeSize
  simp
  split <;> omega

section
variable {C : Cx} {A : Around} {env : Env} {ρ : Loc} {σ : AH} {E : EX} {Q : V → AH → Prop}
theorem WL.conseq {es : List Expr} {Q Q' : List V → AH → Prop} (h : WL C A env es ρ σ Q E) (hq : ∀ v σ1, Q v σ1 → Q' v σ1) : WL C A env es ρ σ Q' E := by
  refine ⟨?_⟩
  intro ad s pos hr er
  refine wpAny_mono (h.run ad s pos hr er) ?_ fun _ _ x => x
  rintro u s1 ⟨ad1, σ1, v, n1, r1, h1⟩
  exact ⟨ad1, σ1, v, n1, r1, hq _ _ h1⟩
theorem WItr_rng {C : Cx} {l : List (Str × Value)} {id : Str} {p pos : Pos} {args : List Expr} {K : Nat → (Nat → V) → (AH → Prop) → AH → Prop} (hA : A.handled = none) (hf : (id, Value.type "range") ∈ l)
    (h : WL (C.wg l) A env args ρ σ (fun vs σ1 => ∃ n : Nat, vs = [.int n] ∧ n ≤ 2 ^ 60 ∧ K n (fun i => .int (i : Nat)) (fun _ => True) σ1) E)
    (hns : noStar args = true := by rfl) : WItr (C.wg l) A env (.Call (.Name id p) args [] pos) ρ σ K E := by
  refine WItr_range hA hf (h.conseq ?_) hns
  rintro vs σ1 ⟨n, rfl, hn, hk⟩
  refine ⟨0, n, 1, rfl, by decide, by decide, by omega, by decide, ?_⟩
  rw [rngSize0]
  have e : (fun i : Nat => V.int (0 + (i : Int) * 1)) = fun i : Nat => V.int i := by funext i; congr 1; omega
  rw [e]; exact hk
theorem listSub_bool {prog : Program} {w : World} {s : Shared} {b : Bool} {Q : Option Int → Shared → Prop} (h : Q (some (if b = true then 1 else 0)) s) :
    wpAny (model prog w) A (Builtin.List.listSubscript? (.bool b)) Q E s := by
  unfold Builtin.List.listSubscript?
  refine wpAny_bind (wpAny_specialOf (T := "bool") (PySem.typeIs_bool s b) PySem.F.slot_bool_index.lookup ?_)
  show wpAny _ A (asIndex (.bool b) >>= _) Q E s
  refine wpAny_bind (wpAny_of_eq (a := if b = true then 1 else 0) (by cases b <;> rfl) ?_)
  cases b <;> exact wpAny_pure h
theorem getItem_bool {prog : Program} {w : World} {s : Shared} {l : Addr} {items : Array Value} {b : Bool} {x : Value} {Q : Value → Shared → Prop} (hl : s.heap.IsList l items)
    (hx : items[(if b = true then 1 else 0 : Nat)]? = some x) (h : Q x s) : wpAny (model prog w) A (getItem (.ref l) (.bool b)) Q E s := by
  obtain ⟨o, ho, hc, ne, hd⟩ := id hl
  unfold getItem
  try with_reducible refine wpAny_holding ?_
  first | refine wpAny_bind (wpAny_pure ?_) | skip
  refine wpAny_bind (wpAny_sequenceKey hl.typeIs (by decide) ?_)
  refine wpAny_bind (wpAny_callSpecial?_slot (name := Str.ofString "__getitem__") hl.typeIs slot_list_getitem
    (wpAny_call_entry slot_list_getitem hl.typeIs entry_list_getitem ?_ (args_list_getitem _ _)))
  show wpAny _ _ (Builtin.List.listSubscript? (.bool b) >>= _) _ _ s
  refine wpAny_bind (listSub_bool ?_)
  generalize hj : (if b = true then 1 else 0 : Nat) = j at hx
  have e : (if b = true then (1 : Int) else 0) = Int.ofNat j := by subst hj; cases b <;> rfl
  rw [e]
  show wpAny _ _ ((seqItemAt l j >>= fun r => pure (r.map (j, ·))) >>= _) _ _ s
  refine wpAny_bind (wpAny_bind (wpAny_seqItemAt ho hd (wpAny_pure ?_)))
  rw [hx]
  first
    | exact wpAny_bind (wpAny_pure (wpAny_pure ⟨x, rfl, wpAny_pure h⟩))
    | exact wpAny_pure ⟨x, rfl, wpAny_pure h⟩
noncomputable def ixOf : V → Option Nat
  | .int i => if 0 ≤ i ∧ i < 2 ^ 63 then some i.toNat else none
  | .bool b => some (if b = true then 1 else 0)
  | _ => none
theorem ixI {k : Int} {x : V} {vs : List V} {P : V → Prop} (h0 : 0 ≤ k) (h1 : k < 2 ^ 63) (hx : vs[k.toNat]? = some x) (h : P x) : ∃ j y, ixOf (.int k) = some j ∧ vs[j]? = some y ∧ P y :=
  ⟨k.toNat, x, (show (if 0 ≤ k ∧ k < 2 ^ 63 then some k.toNat else none) = some k.toNat from if_pos ⟨h0, h1⟩), hx, h⟩
theorem ixB {c : Bool} {x : V} {vs : List V} {P : V → Prop} (hx : vs[(if c = true then 1 else 0 : Nat)]? = some x) (h : P x) : ∃ j y, ixOf (.bool c) = some j ∧ vs[j]? = some y ∧ P y := ⟨_, x, rfl, hx, h⟩
/-- an item of a list written out, by a number or a truth value -/
theorem WE_menuX {es : List Expr} {slice : Expr} {lp pos : Pos} (h : WL C A env es ρ σ (fun vs σ1 => vs.length ≤ sizeLine ∧ WE C A env slice ρ σ1 (fun b σ2 => ∃ k x, ixOf b = some k ∧ vs[k]? = some x ∧ Q x σ2) E) E)
    (hs : isSliceE slice = false := by rfl) : WE C A env (.Subscript (.List es lp) slice pos) ρ σ Q E := by
  refine ⟨?_⟩
  intro ad s hr er
  refine Subscript_ (List_ (wpAny_mono (h.run ad s lp hr er) ?_ fun _ _ x => x))
  rintro us s1 ⟨ad1, σ1, vs, n1, r1, hz, h1⟩
  refine wpAny_newObj_type ?_ (by show us.toArray.size ≤ sizeLine; rw [List.size_toArray, ← r1.length]; exact hz)
  have n2 : Nx C [] ad1 s1 ad1 σ1 { s1 with heap := s1.heap.push { cls := .type "list", data := .seq us.toArray } } := Nx.push _ n1.hr
  have n12 := n1.trans n2
  refine wpAny_mono (h1.run ad1 _ n2.hr (er.next n12)) ?_ fun _ _ x => x
  rintro b s3 ⟨ad3, σ3, vb, n3, r3, k, x, hk, hx, hq⟩
  have hl : s3.heap.IsList s1.heap.objs.size us.toArray := by
    refine ⟨_, n3.same s1.heap.objs.size _ (Heap.get?_push_size _ rfl) ?_ (by simp), rfl, _, rfl⟩
    exact (n1.hr.fresh (Nat.le_refl _)).2
  obtain ⟨u, hu, ru⟩ := r1.get hx
  have n13 := n12.trans n3
  cases vb with
  | int i =>
    obtain ⟨t, rfl⟩ := r3
    have hk : (if 0 ≤ i ∧ i < 2 ^ 63 then some i.toNat else none) = some k := hk
    by_cases hi : 0 ≤ i ∧ i < 2 ^ 63
    · rw [if_pos hi] at hk
      cases hk
      exact tail_any hl.typeIs slot_list_getitem.lookup (wpAny_getItem_list hl hi.1 hi.2 (by simpa using hu) ⟨ad3, σ3, x, n13, n3.rv (n2.rv ru), hq⟩) (slice_not hs _ _)
    · rw [if_neg hi] at hk
      cases hk
  | bool c =>
    cases r3
    cases hk
    exact tail_any hl.typeIs slot_list_getitem.lookup (getItem_bool hl (by simpa using hu) ⟨ad3, σ3, x, n13, n3.rv (n2.rv ru), hq⟩) (slice_not hs _ _)
  | _ => cases hk
theorem Rd.list_inv {v : V} {ds : List PyData} (h : Rd C σ v (.list ds)) : ∃ xs, ObjAt C σ v (.list xs) ∧ RdAll C σ xs ds := by
  cases h with
  | list o r => exact ⟨_, o, r⟩
theorem RdAll.range {n : Nat} {f : Nat → V} {g : Nat → PyData} (h : ∀ k, k < n → Rd C σ (f k) (g k)) : RdAll C σ ((List.range n).map f) ((List.range n).map g) := by
  have gen : ∀ l : List Nat, (∀ k ∈ l, k < n) → RdAll C σ (l.map f) (l.map g) := by
    intro l
    induction l with
    | nil => intro _; exact .nil
    | cons x r ih => intro hl; exact .cons (h x (hl x (.head _))) (ih fun k hk => hl k (.tail _ hk))
  exact gen _ fun k hk => List.mem_range.mp hk
theorem Rd.ints_inv {v : V} {r : List Int} (h : Rd C σ v (.list (r.map PyData.int))) : ObjAt C σ v (.list (r.map V.int)) := by
  obtain ⟨xs, o, ra⟩ := h.list_inv
  have : ∀ (r : List Int) (xs : List V), RdAll C σ xs (r.map PyData.int) → xs = r.map V.int := by
    intro r
    induction r with
    | nil => intro xs h; cases h; rfl
    | cons i r ih =>
      intro xs h
      rw [List.map_cons] at h
      cases h with
      | cons a b => cases a; rw [ih _ b]; rfl
  rw [this r xs ra] at o
  exact o
end
end Mine

-- part Aw25
set_option autoImplicit false
set_option linter.unusedVariables false
namespace Mine
open PySem PySem.W PyProof.Rows

theorem lenS {n : Nat} : ∀ {xs : List Value}, xs.length = n + 1 → ∃ x r, xs = x :: r ∧ r.length = n
  | x :: r, h => ⟨x, r, rfl, Nat.succ.inj h⟩
theorem len0 {xs : List Value} (h : xs.length = 0) : xs = [] := List.eq_nil_of_length_eq_zero h
theorem len1 {xs : List Value} (h : xs.length = 1) : ∃ x0, xs = [x0] := let ⟨x, r, e, h2⟩ := lenS h; ⟨x, by rw [e, len0 h2]⟩
theorem len2 {xs : List Value} (h : xs.length = 2) : ∃ x0 x1, xs = [x0, x1] := let ⟨x, r, e, h2⟩ := lenS h; let ⟨y0, e2⟩ := len1 h2; ⟨x, y0, by rw [e, e2]⟩
theorem len3 {xs : List Value} (h : xs.length = 3) : ∃ x0 x1 x2, xs = [x0, x1, x2] := let ⟨x, r, e, h2⟩ := lenS h; let ⟨y0, y1, e2⟩ := len2 h2; ⟨x, y0, y1, by rw [e, e2]⟩
theorem len4 {xs : List Value} (h : xs.length = 4) : ∃ x0 x1 x2 x3, xs = [x0, x1, x2, x3] := let ⟨x, r, e, h2⟩ := lenS h; let ⟨y0, y1, y2, e2⟩ := len3 h2; ⟨x, y0, y1, y2, by rw [e, e2]⟩
theorem len5 {xs : List Value} (h : xs.length = 5) : ∃ x0 x1 x2 x3 x4, xs = [x0, x1, x2, x3, x4] := let ⟨x, r, e, h2⟩ := lenS h; let ⟨y0, y1, y2, y3, e2⟩ := len4 h2; ⟨x, y0, y1, y2, y3, by rw [e, e2]⟩
theorem len6 {xs : List Value} (h : xs.length = 6) : ∃ x0 x1 x2 x3 x4 x5, xs = [x0, x1, x2, x3, x4, x5] := let ⟨x, r, e, h2⟩ := lenS h; let ⟨y0, y1, y2, y3, y4, e2⟩ := len5 h2; ⟨x, y0, y1, y2, y3, y4, by rw [e, e2]⟩
theorem len7 {xs : List Value} (h : xs.length = 7) : ∃ x0 x1 x2 x3 x4 x5 x6, xs = [x0, x1, x2, x3, x4, x5, x6] := let ⟨x, r, e, h2⟩ := lenS h; let ⟨y0, y1, y2, y3, y4, y5, e2⟩ := len6 h2; ⟨x, y0, y1, y2, y3, y4, y5, by rw [e, e2]⟩
theorem fm_range {α : Type} (xs : List α) (s : Nat) : ∀ c, s + c ≤ xs.length → ((List.range c).map (fun k => s + k)).filterMap (xs[·]?) = (xs.drop s).take c
  | 0, _ => by simp
  | c + 1, h => by
    have ih := fm_range xs s c (by omega)
    have hl : s + c < xs.length := by omega
    rw [List.range_succ, List.map_append, List.filterMap_append, ih, List.take_add_one]
    simp [List.getElem?_drop, hl]
theorem sliceRange_nat (a b : Nat) (h : a ≤ b) : sliceRange a b 1 = (List.range (b - a)).map (fun k => a + k) := by
  obtain ⟨c, rfl⟩ : ∃ c, b = a + c := ⟨b - a, by omega⟩
  unfold sliceRange
  have e : (if (1 : Int) > 0 then (if (a : Int) < ((a + c : Nat) : Int) then (((a + c : Nat) : Int) - a + 1 - 1) / 1 else 0) else (if (a : Int) > ((a + c : Nat) : Int) then ((a : Int) - ((a + c : Nat) : Int) - 1 - 1) / (-1) else 0)).toNat = c := by
    rw [if_pos (by decide), Int.ediv_one]
    split <;> omega
  dsimp only
  rw [e, Nat.add_sub_cancel_left]
  refine List.map_congr_left fun k _ => ?_
  rw [Int.one_mul]; rfl
section
variable {C : Cx} {A : Around} {env : Env} {ρ : Loc} {σ : AH} {E : EX} {Q : V → AH → Prop}
mutual
theorem Rd.turn {C C' : Cx} {σ σ' : AH} (ho : ∀ v o, ObjAt C σ v o → ObjAt C' σ' v o) : ∀ {v : V} {d : PyData}, Rd C σ v d → Rd C' σ' v d
  | _, _, .none => .none
  | _, _, .bool => .bool
  | _, _, .int => .int
  | _, _, .str => .str
  | _, _, .list o r => .list (ho _ _ o) (RdAll.turn ho r)
  | _, _, .tuple o r => .tuple (ho _ _ o) (RdAll.turn ho r)
theorem RdAll.turn {C C' : Cx} {σ σ' : AH} (ho : ∀ v o, ObjAt C σ v o → ObjAt C' σ' v o) : ∀ {v : List V} {d : List PyData}, RdAll C σ v d → RdAll C' σ' v d
  | _, _, .nil => .nil
  | _, _, .cons r rs => .cons (Rd.turn ho r) (RdAll.turn ho rs)
end
theorem Rd.up {J : AH} {v : V} {d : PyData} (h : Rd C σ v d) : Rd C (σ ++ J) v d := h.turn fun _ _ o => o.up
theorem RdAll.up {J : AH} {v : List V} {d : List PyData} (h : RdAll C σ v d) : RdAll C (σ ++ J) v d := h.turn fun _ _ o => o.up
theorem Rd.wg {l : List (Str × Value)} {v : V} {d : PyData} (h : Rd C σ v d) : Rd (C.wg l) σ v d := h.turn fun v o q => by cases v <;> exact q
theorem Rd.gw {l : List (Str × Value)} {v : V} {d : PyData} (h : Rd (C.wg l) σ v d) : Rd C σ v d := h.turn fun v o q => by cases v <;> exact q
theorem RdAll.snoc {vs : List V} {ds : List PyData} {v : V} {d : PyData} (h : RdAll C σ vs ds) (hv : Rd C σ v d) : RdAll C σ (vs ++ [v]) (ds ++ [d]) := by
  induction vs generalizing ds with
  | nil => cases h; exact .cons hv .nil
  | cons a r ih => cases h with
    | cons x y => exact .cons x (ih y)
theorem RdAll.len {vs : List V} {ds : List PyData} (h : RdAll C σ vs ds) : vs.length = ds.length := by
  induction vs generalizing ds with
  | nil => cases h; rfl
  | cons a r ih => cases h with
    | cons x y => simp [ih y]
theorem RdAll.get {vs : List V} {ds : List PyData} (h : RdAll C σ vs ds) : ∀ {i : Nat} {d : PyData}, ds[i]? = some d → ∃ v, vs[i]? = some v ∧ Rd C σ v d := by
  induction vs generalizing ds with
  | nil => cases h; intro i d h; simp at h
  | cons a r ih => cases h with
    | cons x y =>
      intro i d hd
      cases i with
      | zero => simp at hd; subst hd; exact ⟨a, rfl, x⟩
      | succ i => simp at hd; obtain ⟨v, h1, h2⟩ := ih y hd; exact ⟨v, by simpa using h1, h2⟩
end
end Mine

-- part Aw26
set_option autoImplicit false
set_option linter.unusedVariables false
namespace Mine
open PySem PySem.W PyProof.Rows

/-- the comprehension's names are as wished: several targets -/
noncomputable def compOkG (onames : List (Str × NameKind)) (sc : Scope) (xs : List Str) (capt gl : List Str) : Bool :=
  sc.names.all (fun p => p.2 != .cell && (p.2 != .local || sc.names.lookup p.1 == some .local) && (p.2 != .free || (capt.contains p.1 && onames.lookup p.1 == some .cell)))
  && xs.all (fun x => sc.names.lookup x == some .local && nmOk x && !capt.contains x)
  && capt.all (fun y => nmOk y && sc.names.lookup y == some .free)
  && gl.all (fun y => nmOk y && sc.names.lookup y == some .globalImplicit)
  && decide xs.Nodup
structure CompOkG (onames : List (Str × NameKind)) (sc : Scope) (xs : List Str) (capt gl : List Str) : Prop where
  nocell : ∀ y ∈ sc.names, y.2 ≠ .cell
  locs : ∀ y ∈ sc.names, y.2 = .local → sc.names.lookup y.1 = some .local
  free : ∀ n, (n, NameKind.free) ∈ sc.names → n ∈ capt ∧ onames.lookup n = some .cell
  xl : ∀ x ∈ xs, sc.names.lookup x = some .local
  xn : ∀ x ∈ xs, nmOk x = true
  xc : ∀ x ∈ xs, x ∉ capt
  xd : xs.Nodup
  cap : ∀ y ∈ capt, nmOk y = true ∧ sc.names.lookup y = some .free
  glo : ∀ y ∈ gl, nmOk y = true ∧ sc.names.lookup y = some .globalImplicit
/-- a value stored to a comprehension's target binds the names xs to vs -/
structure TgtOk (C : Cx) (A : Around) (target : Expr) (xs : List Str) (pv : V) (vs : List V) (σ : AH) : Prop where
  len : xs.length = vs.length
  run : ∀ ad (s : Shared) u (cenv : Env) m (Q : Unit → Shared → Prop) (E : EX), HR C ad σ s.heap → RV ad pv u → (∀ x ∈ xs, cenv.kindOf x = some .local) → cenv.scope.kind = .function → s.heap.Ns cenv.locals m → cenv.locals ∉ ad → C.G.get? cenv.locals = none →
    (∀ h' tk m2 us, RVs ad vs us → h'.Ns cenv.locals m2 → (∀ p ∈ xs.zip us, m2 p.1 = some p.2) → (∀ b o, b ≠ cenv.locals → s.heap.get? b = some o → h'.get? b = some o) → s.heap.objs.size ≤ h'.objs.size → Q () { s with heap := h', toks := tk }) →
    wpAny (model C.prog C.w) A (assign target cenv u) Q E s
section
variable {C : Cx} {A : Around} {env : Env} {ρ : Loc} {σ : AH} {E : EX} {Q : V → AH → Prop}
theorem compLoopG {prog : Program} {w : World} {R : Result → Shared → Prop} {s : Shared} {elt target iter : Expr} {ifs : List Expr} {scope : Scope} {pos : Pos} {it acc : Value} (I : Nat → Shared → Prop)
    (turn : ∀ n s, I n s → wpAny (model prog w) A (pyNext it) (fun r s₁ => match r with
      | none => R (.ok .next) s₁
      | some v => wpAny (model prog w) A (letOwnedTupleGo target it v) (fun _ s₁' => wpAny (model prog w) A (assign target env v) (fun _ s₂ =>
          wpAny (model prog w) A (forIn ifs true fun c r => if r = true then do let ok ← isTrue c env (eval c env); pure (ForInStep.yield ok) else pure (ForInStep.yield r)) (fun ok s₃ =>
            if ok = true then wpAny (model prog w) A (eval elt env) (fun x s₄ =>
              wpAny (model prog w) A (call (.builtin "list.append") [acc, x]) (fun _ s₅ => ∃ m, m < n ∧ I m s₅) (notedBy (model prog w) A env fun e s' => R (.error e) s') s₄) (notedBy (model prog w) A env fun e s' => R (.error e) s') s₃
            else ∃ m, m < n ∧ I m s₃) (notedBy (model prog w) A env fun e s' => R (.error e) s') s₂) (notedBy (model prog w) A env fun e s' => R (.error e) s') s₁') (notedBy (model prog w) A env fun e s' => R (.error e) s') s₁) (notedBy (model prog w) A env fun e s' => R (.error e) s') s)
    (n : Nat) (h : I n s) : codeAny (model prog w) A (.compLoop (.ListComp elt [⟨target, iter, ifs, 0⟩] scope pos) 0 it acc env) R s := by
  refine codeAny_loop rfl I (fun n s hI => ?_) n h
  show wpAny _ A ((compTurn (.ListComp elt [⟨target, iter, ifs, 0⟩] scope pos) 0 it acc env).onRaise (fun x => do noteFrame x env; theTreesLotGoes x)) _ _ s
  refine wpAny_noted ?_
  rw [compTurn_list]
  refine wpAny_bind (wpAny_standAt (wpAny_bind (wpAny_mono (turn n s hI) (fun r s₁ h₁ => ?_) fun _ _ h' => h')))
  cases r with
  | none => exact wpAny_pure h₁
  | some v =>
    refine wpAny_bind (wpAny_mono h₁ (fun _ s₁' h₁' => ?_) fun _ _ h' => h')
    refine wpAny_bind (wpAny_mono h₁' (fun _ s₂ h₂ => wpAny_bind (wpAny_mono h₂ (fun ok s₃ h₃ => ?_) fun _ _ h' => h')) fun _ _ h' => h')
    cases ok with
    | false => exact wpAny_pure ⟨rfl, h₃⟩
    | true => exact wpAny_bind (wpAny_bind (wpAny_mono h₃ (fun x s₄ h₄ => wpAny_bind (wpAny_mono h₄ (fun _ s₅ h₅ => wpAny_pure (wpAny_pure ⟨rfl, h₅⟩)) fun _ _ h' => h')) fun _ _ h' => h'))
/-- what a comprehension asks -/
noncomputable def CompGoG (C : Cx) (A : Around) (l l2 : List (Str × Value)) (sc : Scope) (xs : List Str) (target : Expr) (ifs : List Expr) (elt : Expr) (capt : Loc) (K : List V → AH → Prop) (n : Nat) (P : Nat → V) (Cd : AH → Prop) (σ1 : AH) : Prop :=
  n ≤ sizeLine ∧ ∃ (vls : Nat → List V) (Inv : Nat → List V → AH → Prop), Inv 0 [] σ1 ∧ (∀ i acc σ', i < n → Inv i acc σ' → Cd σ' ∧ TgtOk (C.wg l) A target xs (P i) (vls i) σ' ∧ ∀ cenv, Kn cenv (relab sc.names) → WIf (C.wg l2) A cenv true ifs (xs.zip ((vls i).map some) ++ capt) σ'
      (fun b σ2 => if b = true then WE (C.wg l2) A cenv elt (xs.zip ((vls i).map some) ++ capt) σ2 (fun v σ3 => Inv (i + 1) (acc ++ [v]) σ3) (fun _ _ => False) else Inv (i + 1) acc σ2) (fun _ _ => False)) ∧
    ∀ acc σ', Inv n acc σ' → Cd σ' ∧ K acc σ'
end
end Mine

-- part Aw28
set_option autoImplicit false
set_option linter.unusedVariables false
namespace Mine
open PySem PySem.W PyProof.Rows

noncomputable def atomIs : Atom → Value → Bool
  | .s x, v => Value.isStrOf x v
  | .i n, v => Value.isInt n v
noncomputable def atomKind (prog : Program) (w : World) : KeyKind prog w Atom where
  is := atomIs
  hash := atomHash w.params
  inj := fun v a b ha hb => by
    cases a with
    | s x => cases b with
      | s y => rw [Value.isStrOf_inj v x y ha hb]
      | i n => obtain ⟨u, h⟩ := Value.isInt_shape (show Value.isInt n v = true from hb); subst h; exact (Bool.false_ne_true ha).elim
    | i n => cases b with
      | s y => obtain ⟨u, h⟩ := Value.isInt_shape (show Value.isInt n v = true from ha); subst h; exact (Bool.false_ne_true hb).elim
      | i m => rw [Value.isInt_inj v n m ha hb]
  byValue := fun k v h => by
    cases k with
    | s x => obtain ⟨t, rfl⟩ := Value.isStrOf_shape h; rfl
    | i n => obtain ⟨t, rfl⟩ := Value.isInt_shape h; rfl
  pyHash := fun {A E s k v Q} hv h => by
    cases k with
    | s x => exact (strKind prog w).pyHash (k := x) hv h
    | i n => exact (intKind prog w).pyHash (k := n) hv h
  eqBool := fun {A E s a b u v Q} hu hv h => by
    cases a with
    | s x => cases b with
      | s y => exact (strKind prog w).eqBool (a := x) (b := y) hu hv (by simpa using h)
      | i n => obtain ⟨t, rfl⟩ := Value.isStrOf_shape hu; obtain ⟨t', rfl⟩ := Value.isInt_shape hv; exact SeqAt.EqAt.str_int x t n t' prog w E Q (by simpa using h)
    | i n => cases b with
      | s y => obtain ⟨t, rfl⟩ := Value.isStrOf_shape hv; obtain ⟨t', rfl⟩ := Value.isInt_shape hu; exact SeqAt.EqAt.int_str n t' y t prog w E Q (by simpa using h)
      | i m => exact (intKind prog w).eqBool (a := n) (b := m) hu hv (by simpa using h)
  «strs» := fun k x t v h => by
    cases k with
    | s y => exact (strKind prog w).strs y x t v h
    | i n => exact (Bool.false_ne_true h).elim

noncomputable def atomV : Atom → V
  | .s x => .str x
  | .i n => .int n
abbrev TD := List (List Atom × Nat × V)
noncomputable def tget (es : TD) (ks : List Atom) : Option V := (es.find? fun e => decide (e.1 = ks)).map (·.2.2)
noncomputable def tput (es : TD) (ks : List Atom) (j : Nat) (v : V) : TD := if (tget es ks).isSome then es.map (fun e => if e.1 = ks then (e.1, e.2.1, v) else e) else es ++ [(ks, j, v)]
noncomputable def Keyed (σ : AH) (es : TD) : Prop := ∀ e ∈ es, σ[e.2.1]? = some (.tuple (e.1.map atomV))
inductive RX (ad : List Addr) : TD → List (List Atom × Addr × Value) → Prop
  | nil : RX ad [] []
  | cons {ks : List Atom} {j : Nat} {a : Addr} {v : V} {x : Value} {es : TD} {xs : List (List Atom × Addr × Value)} : ad[j]? = some a → RV ad v x → RX ad es xs → RX ad ((ks, j, v) :: es) ((ks, a, x) :: xs)
theorem RTs.rx {prog : Program} {w : World} {ad : List Addr} {es : TD} {ds : List DictEntry} (h : RTs w.params ad es ds) : ∃ xs, RX ad es xs ∧ ds = xs.map (entryOfKey (tupleKind (atomKind prog w))) := by
  induction h with
  | nil => exact ⟨[], .nil, rfl⟩
  | cons e r _ ih => obtain ⟨xs, h1, h2⟩ := ih; exact ⟨_, .cons e r h1, by rw [h2]; rfl⟩
theorem RX.rts {prog : Program} {w : World} {ad : List Addr} {es : TD} {xs : List (List Atom × Addr × Value)} (h : RX ad es xs) : RTs w.params ad es (xs.map (entryOfKey (tupleKind (atomKind prog w)))) := by
  induction h with
  | nil => exact .nil
  | cons e r _ ih => exact .cons e r ih
theorem RX.names {ad : List Addr} {es : TD} {xs : List (List Atom × Addr × Value)} (h : RX ad es xs) : xs.map (·.1) = es.map (·.1) := by
  induction h with
  | nil => rfl
  | cons e r _ ih => simp [ih]
theorem RX.at {ad : List Addr} {es : TD} {xs : List (List Atom × Addr × Value)} (h : RX ad es xs) (ks : List Atom) : (∀ v, tget es ks = some v → ∃ p, atKey xs ks = some p ∧ RV ad v p.2) ∧ (tget es ks = none → atKey xs ks = none) := by
  induction h with
  | nil => exact ⟨fun v hv => (by cases hv), fun _ => rfl⟩
  | @cons k j a v x es xs e r _ ih =>
    by_cases hk : k = ks
    · refine ⟨fun v' hv => ?_, fun hn => ?_⟩
      · simp [tget, hk] at hv; subst hv; exact ⟨(a, x), by simp [atKey, hk], r⟩
      · simp [tget, hk] at hn
    · simpa [tget, atKey, hk] using ih
theorem RX.stored {ad : List Addr} {es : TD} {xs : List (List Atom × Addr × Value)} {ks : List Atom} {j : Nat} {a : Addr} {v : V} {x : Value} (h : RX ad es xs) (hj : ad[j]? = some a) (rv : RV ad v x) : RX ad (tput es ks j v) (storedH xs ks a x) := by
  obtain ⟨h1, h2⟩ := h.at ks
  unfold tput storedH
  cases ht : tget es ks with
  | none =>
    rw [h2 ht]
    clear h1 h2 ht
    simp only [Option.isSome_none, Bool.false_eq_true, if_false]
    induction h with
    | nil => exact .cons hj rv .nil
    | cons e r _ ih => exact .cons e r ih
  | some v0 =>
    obtain ⟨p, hp, _⟩ := h1 v0 ht
    rw [hp]
    clear h1 h2 ht hp
    simp only [Option.isSome_some, if_true]
    induction h with
    | nil => exact .nil
    | @cons k j' a' v' x' es xs e r _ ih =>
      simp only [List.map_cons]
      by_cases hk : k = ks
      · simp only [putAt, if_pos hk]; exact .cons e rv ih
      · simp only [putAt, if_neg hk]; exact .cons e r ih
theorem RVs.atoms {prog : Program} {w : World} {ad : List Addr} : ∀ {ks : List Atom} {vs : List Value}, RVs ad (ks.map atomV) vs → ItemsAre (atomKind prog w) ks vs
  | [], _, .nil => .nil
  | .s x :: ks, _, .cons ⟨t, e⟩ h => by subst e; exact .cons (knd := atomKind prog w) (k := Atom.s x) (strKind_is prog w x t) (RVs.atoms h)
  | .i n :: ks, _, .cons ⟨t, e⟩ h => by subst e; exact .cons (knd := atomKind prog w) (k := Atom.i n) (intKind_is prog w n t) (RVs.atoms h)

section
variable {C : Cx} {A : Around} {env : Env} {ρ : Loc} {σ : AH} {E : EX} {Q : V → AH → Prop}
theorem HR.tkey {ad : List Addr} {h : Heap} {j : Nat} {ks : List Atom} {a : Addr} (hr : HR C ad σ h) (b : σ[j]? = some (.tuple (ks.map atomV))) (ha : ad[j]? = some a) : IsTupleKey (atomKind C.prog C.w) h ks a := by
  obtain ⟨od, h3, vs, n, rfl, h4⟩ := hr.obj j _ a b ha
  exact ⟨_, vs, n, h3, rfl, rfl, h4.atoms⟩
theorem RX.keyed {ad : List Addr} {h : Heap} {es : TD} {xs : List (List Atom × Addr × Value)} (hr : HR C ad σ h) (k : Keyed σ es) (r : RX ad es xs) : ∀ x ∈ xs, IsTupleKey (atomKind C.prog C.w) h x.1 x.2.1 := by
  induction r with
  | nil => intro x hx; cases hx
  | cons e _ _ ih =>
    intro x hx
    rcases List.mem_cons.mp hx with rfl | hx
    · exact hr.tkey (k _ (.head _)) e
    · exact ih (fun e he => k e (.tail _ he)) x hx
theorem HR.tdict {ad : List Addr} {h : Heap} {j : Nat} {es : TD} {a : Addr} (hr : HR C ad σ h) (b : σ[j]? = some (.tdict es)) (k : Keyed σ es) (nd : (es.map (·.1)).Nodup) (ha : ad[j]? = some a) :
    ∃ xs, h.DictOfH (tupleKind (atomKind C.prog C.w)) a xs ∧ RX ad es xs := by
  obtain ⟨od, h3, ds, n, rfl, h4⟩ := hr.obj j _ a b ha
  obtain ⟨xs, r, e⟩ := h4.rx (prog := C.prog) (w := C.w)
  exact ⟨xs, ⟨_, ds, n, h3, ⟨rfl, rfl, rfl⟩, rfl, e, r.keyed hr k, by rw [r.names]; exact nd⟩, r⟩
theorem item_tdict {value slice : PySem.Expr} {j t : Nat} {es : TD} {ks : List Atom} {v : V} (hu : A.units + 1 < cLine) (b : σ[j]? = some (.tdict es)) (k : Keyed σ es) (nd : (es.map (·.1)).Nodup) (bt : σ[t]? = some (.tuple (ks.map atomV))) (hv : tget es ks = some v) (h : Q v σ)
    (hs : isSliceE slice = false := by rfl) : WSub C A value slice (.ref j) (.ref t) σ Q E := by
  refine ⟨?_⟩
  rintro ad s y z hr ⟨a, ha, rfl⟩ ⟨at', hat, rfl⟩
  obtain ⟨xs, D, r⟩ := hr.tdict b k nd ha
  obtain ⟨p, hp, rp⟩ := (r.at ks).1 v hv
  exact tail_any D.typeIs slot_dict_getitem.lookup (wpAny_getItem_heap (tupleKind_room_in1 hu) (hr.tkey bt hat) D hp (PE.tok _ hr rp h)) (slice_not hs _ _)
theorem seti_tdict {j t : Nat} {es : TD} {ks : List Atom} {x : V} {Q : AH → Prop} (hu : A.units + 1 < cLine) (b : σ[j]? = some (.tdict es)) (k : Keyed σ es) (nd : (es.map (·.1)).Nodup) (bt : σ[t]? = some (.tuple (ks.map atomV))) (hz : es.length ≤ sizeLine)
    (h : Q (σ.set j (.tdict (tput es ks t x)))) : WSi C A (.ref j) (.ref t) x σ Q E := by
  refine ⟨?_⟩
  rintro ad s vo vi vx hr ⟨a, ha, rfl⟩ ⟨at', hat, rfl⟩ rx
  obtain ⟨xs, D, r⟩ := hr.tdict b k nd ha
  have hlen : xs.length = es.length := by have := congrArg List.length r.names; simpa using this
  refine wpAny_setItem_heap (tupleKind_room_in1 hu) (hr.tkey bt hat) D (fun h' D' hs => ?_) (by rw [hlen]; exact hz)
  obtain ⟨o, es', ep, ho, ⟨hc1, hc2, hc3⟩, hd, he, _, _⟩ := D'
  obtain ⟨oc, odi, oda, osl⟩ := o
  dsimp only at hc1 hc2 hc3 hd
  subst hc1 hc2 hc3 hd
  exact ⟨ad, _, Nx.set (o := .tdict (tput es ks t x)) hr ha hs ho ⟨es', ep, rfl, by rw [he]; exact (r.stored hat rx).rts⟩, h⟩
theorem WE_dict0t {pos : Pos} (h : Q (.ref σ.length) (σ ++ [.tdict []])) : WE C A env (.Dict [] [] pos) ρ σ Q E := by
  refine ⟨?_⟩
  intro ad s hr er
  exact wpAny_Dict_empty ⟨_, _, .ref σ.length, Nx.alloc hr (o := .tdict []) ⟨#[], 0, rfl, .nil⟩, RV.last hr.len.symm, h⟩
end
end Mine

-- part Aw29
set_option autoImplicit false
set_option linter.unusedVariables false
namespace Mine
open PySem PySem.W PyProof.Rows

section
open AutoSeq1 (wpAny_loadPart')
theorem collect_sz {prog : Program} {w : World} {A : Around} {E : Value → Shared → Prop} {s : Shared} {Q : List Value → Shared → Prop} (it : Addr) {T : String} {o : Obj} {items : Array Value} {n : Nat} (hT : T = "list" ∨ T = "tuple")
    (ho : s.heap.get? it = some o) (hc : o.cls = .type T) (hd : o.data = .seq items n) (hsz : items.size ≤ sizeLine)
    (hQ : ∀ h' : Heap, s.heap.objs.size ≤ h'.objs.size → (∀ b o', s.heap.get? b = some o' → h'.get? b = some o') → Q items.toList { s with heap := h' }) : wpAny (model prog w) A (collect (.ref it)) Q E s :=
  wpAny_sz (wpAny_collect_seq it hT ho hc hd (fun h' hk hz => hQ h' hz hk) hsz)
theorem tuple_new_sz (l : Addr) (o : Obj) (items : Array Value) (n : Nat) (hc : o.cls = .type "list") (hd : o.data = .seq items n) (hsz : items.size ≤ sizeLine) :
    Meets (Builtin.«tuple.__new__» ⟨[.type "tuple", .ref l], []⟩)
      (fun _ R s => s.heap.get? l = some o ∧ ∀ h' : Heap, s.heap.objs.size ≤ h'.objs.size → (∀ b o', s.heap.get? b = some o' → h'.get? b = some o') → R (.ok (.ret (.ref h'.objs.size))) { s with heap := h'.push { cls := .type "tuple", data := .seq items } }) :=
  .of_wp fun prog w A R s h => by
    obtain ⟨hp, g, d, tk, os⟩ := s; obtain ⟨ht, h⟩ := h
    have hsub := sub_tuple_self
    have hinit := init_tuple_lookup
    have hmh := madeHere_tuple
    have hT : Shared.TypeIs ⟨hp, g, d, tk, os⟩ (.ref l) "list" := ⟨o, ht, hc⟩
    wp_walk using wpAny_loadPart' ht, wpAny_typeOf hT, collect_sz l (.inl rfl) ht hc hd hsz
    intro h' hz hk
    show wpAny _ _ (Builtin.Tuple.tupleExact items.toList.toArray >>= fun v => ret v) _ _ _
    unfold Builtin.Tuple.tupleExact
    refine wpAny_bind (wpAny_newObj_type ?_ (by show items.toList.toArray.size ≤ sizeLine; simpa using hsz))
    refine wpAny_pure ⟨_, rfl, ?_⟩
    have e : items.toList.toArray = items := by simp
    rw [e]
    exact h h' hz hk
end
section
variable {C : Cx} {A : Around} {env : Env} {ρ : Loc} {σ : AH} {E : EX} {Q : V → AH → Prop}
theorem WC_tuple {v : V} {xs : List V} (b : ObjAt C σ v (.list xs)) (hz : xs.length ≤ sizeLine) (h : Q (.ref σ.length) (σ ++ [.tuple xs])) : WC C A (.type "tuple") [v] σ Q E := by
  refine ⟨?_⟩
  rintro ad s us hr (_ | ⟨rv, _ | _⟩)
  obtain ⟨a, vs, rfl, hl, rvs⟩ := b.list hr rv
  obtain ⟨o, ho, hc, n, hd⟩ := id hl
  refine callType_new F.called_tuple (by decide) (F.typeCall_tuple_1 _) (F.newCall_tuple_1 _) (fun obj => F.args_object_init_2 obj _) F.entry_tuple_new
    (tuple_new_sz a o vs n hc hd (by rw [← Array.length_toList, ← rvs.length]; exact hz)) ⟨ho, fun h' hz' hk => ⟨⟨_, Heap.get?_push_size _ rfl, rfl⟩, ?_⟩⟩
  have n1 : Nx C [] ad s ad σ { s with heap := h', toks := s.toks } := Nx.keeps hz' hr hk
  exact ⟨_, _, .ref σ.length, n1.trans (Nx.alloc (o := .tuple xs) n1.hr ⟨vs, 0, rfl, rvs⟩), RV.last hr.len.symm, h⟩

/- list.extend, list.reverse -/
theorem WM_list {name : Str} {id : String} {j : Nat} {xs : List V} {K : Value → List V → AH → Prop} (slot : Slot "list" name id) (hty : typeOf (.builtin id) = pure (.type "method_descriptor")) (b : σ[j]? = some (.list xs)) (h : K (.builtin id) [.ref j] σ) : WM C A (.ref j) name σ K E := by
  refine ⟨?_⟩
  rintro ad s x pl hr ⟨a, ha, rfl⟩
  obtain ⟨ob, h1, vs, n, e2, h2⟩ := hr.obj j _ a b ha
  subst e2
  have hT : s.TypeIs (.ref a) "list" := ⟨_, h1, rfl⟩
  unfold getMethod
  refine wpAny_bind (wpAny_specialOf hT list_getattribute ?_)
  show wpAny _ A (if (Manifest.canonical "list.__getattribute__" != "object.__getattribute__") = true then _ else _) _ E s
  rw [canon_list_getattribute, if_neg Bool.false_ne_true]
  refine wpAny_bind (wpAny_specialOf hT list_getattr_none ?_)
  refine wpAny_bind (wpAny_specialOf hT slot.lookup ?_)
  refine wpAny_bind (wpAny_of_eq hty ?_)
  refine wpAny_bind (wpAny_load h1 ?_)
  exact wpAny_bind (wpAny_rule (wpAny_pure ⟨ad, σ, [.ref j], Nx.refl hr, .cons ⟨a, ha, rfl⟩ .nil, h⟩))
theorem WM_extend {j : Nat} {xs : List V} {K : Value → List V → AH → Prop} (b : σ[j]? = some (.list xs)) (h : K (.builtin "list.extend") [.ref j] σ) : WM C A (.ref j) "extend" σ K E := WM_list F.slot_list_extend F.type_list_extend b h
theorem WM_reverse {j : Nat} {xs : List V} {K : Value → List V → AH → Prop} (b : σ[j]? = some (.list xs)) (h : K (.builtin "list.reverse") [.ref j] σ) : WM C A (.ref j) "reverse" σ K E := WM_list F.slot_list_reverse F.type_list_reverse b h
theorem mapSeq_plain {vs : Array Value} {n : Nat} {f : Array Value → Array Value} : ∃ m, Obj.mapSeq f ⟨.type "list", none, .seq vs n, #[]⟩ = ⟨.type "list", none, .seq (f vs) m, #[]⟩ := ⟨_, rfl⟩
theorem extend_any {prog : Program} {w : World} {s : Shared} {S it : Addr} {o : Obj} {items items2 : Array Value} {c0 n2 : Nat} {Q : Value → Shared → Prop} (hS : s.heap.get? S = some ⟨.type "list", none, .seq items c0, #[]⟩) (ho : s.heap.get? it = some o) (hc : o.cls = .type "list") (hd : o.data = .seq items2 n2) (hz : items.size + items2.size ≤ sizeLine)
    (hQ : Q .none { s with heap := s.heap.update S (Obj.mapSeq (· ++ items2)) }) : wpAny (model prog w) A (call (.builtin "list.extend") [.ref S, .ref it]) Q E s := by
  refine wpAny_call_entry F.slot_list_extend ⟨_, hS, rfl⟩ F.entry_list_extend ?_ (F.args_list_extend_2 _ _)
  show wpAny _ _ (Builtin.List.listExtendWith (.ref S) (.ref it) .none) _ _ s
  unfold Builtin.List.listExtendWith
  refine wpAny_bind (wpAny_typeOf ⟨o, ho, hc⟩ ?_)
  have h1 : (Builtin.List.listSameRef (.ref S) (.ref it) || Value.type "list" == Value.type "list" || Value.type "list" == Value.type "tuple") = true := by simp
  simp only [h1, if_true]
  refine wpAny_bind ?_
  unfold Builtin.List.listItems
  refine wpAny_bind (wpAny_seqItems ho hd (wpAny_pure ?_))
  refine wpAny_bind ?_
  refine wpAny_bind (wpAny_seqItems hS rfl (wpAny_pure ?_))
  rw [if_neg (extend_door hz)]
  show wpAny _ _ (updateSeq S (· ++ items2) >>= fun _ => ret .none) _ _ s
  refine wpAny_bind (wpAny_updateSeq hS rfl ?_ (hz := by omega) (_hz' := by show (items ++ items2).size ≤ _; rw [Array.size_append]; omega))
  exact wpAny_pure ⟨.none, rfl, hQ⟩
theorem WC_extend {j : Nat} {v : V} {xs ys : List V} (b : σ[j]? = some (.list xs)) (b2 : ObjAt C σ v (.list ys)) (hz : xs.length + ys.length ≤ sizeLine) (h : Q .none (σ.set j (.list (xs ++ ys)))) : WC C A (.builtin "list.extend") [.ref j, v] σ Q E := by
  refine ⟨?_⟩
  rintro ad s us hr (_ | ⟨⟨a, ha, rfl⟩, _ | ⟨rv2, _ | _⟩⟩)
  obtain ⟨ob, h1, vs, n, e2, rvs⟩ := hr.obj j _ a b ha
  obtain ⟨a2, vs2, rfl, ⟨o2, ho2, hc2, n2, hd2⟩, rvs2⟩ := b2.list hr rv2
  subst e2
  have l1 : vs.size = xs.length := by rw [← Array.length_toList, ← rvs.length]
  have l2 : vs2.size = ys.length := by rw [← Array.length_toList, ← rvs2.length]
  refine extend_any h1 ho2 hc2 hd2 (by omega) ?_
  obtain ⟨m, em⟩ := mapSeq_plain (vs := vs) (n := n) (f := fun x => x ++ vs2)
  refine ⟨ad, _, .none, Nx.set (tk := s.toks) (o := .list (xs ++ ys)) (ob := ⟨.type "list", none, .seq (vs ++ vs2) m, #[]⟩) hr ha (Heap.SameBut.update ..) ?_ ⟨_, m, rfl, by rw [Array.toList_append]; exact rvs.append rvs2⟩, rfl, h⟩
  rw [Heap.get?_update_self _ h1 (by rw [em]; rfl), em]
theorem RVs.rev {ad : List Addr} {xs : List V} {vs : List Value} (h : RVs ad xs vs) : RVs ad xs.reverse vs.reverse := by
  induction h with
  | nil => exact .nil
  | cons r _ ih => simp only [List.reverse_cons]; exact ih.append (.cons r .nil)
theorem WC_reverse {j : Nat} {xs : List V} (b : σ[j]? = some (.list xs)) (hz : xs.length ≤ sizeLine) (h : Q .none (σ.set j (.list xs.reverse))) : WC C A (.builtin "list.reverse") [.ref j] σ Q E := by
  refine ⟨?_⟩
  rintro ad s us hr (_ | ⟨⟨a, ha, rfl⟩, _ | _⟩)
  obtain ⟨ob, h1, vs, n, e2, rvs⟩ := hr.obj j _ a b ha
  subst e2
  have l1 : vs.size = xs.length := by rw [← Array.length_toList, ← rvs.length]
  refine call_meets F.slot_list_reverse ⟨_, h1, rfl⟩ F.entry_list_reverse (F.args_list_reverse_1 _) (AutoSeq1.list_reverse_list_0 a vs n (by omega)) ⟨h1, ?_⟩
  obtain ⟨m, em⟩ := mapSeq_plain (vs := vs) (n := n) (f := fun x => x.reverse)
  refine ⟨ad, _, .none, Nx.set (o := .list xs.reverse) (ob := ⟨.type "list", none, .seq vs.reverse m, #[]⟩) hr ha (Heap.SameBut.update ..) ?_ ⟨_, m, rfl, by rw [Array.toList_reverse]; exact rvs.rev⟩, rfl, h⟩
  rw [Heap.get?_update_self _ h1 (by rw [em]; rfl), em]

/- max of three, min of a tuple, is None -/
theorem WC_max3 {i j k : Int} (hA : A.handled = none) (h : Q (.int (max (max i j) k)) σ) : WC C A (.builtin "max") [.int i, .int j, .int k] σ Q E := by
  refine ⟨?_⟩
  rintro ad s us hr (_ | ⟨⟨t, rfl⟩, _ | ⟨⟨u, rfl⟩, _ | ⟨⟨x, rfl⟩, _ | _⟩⟩⟩)
  refine wpAny_sz (max_three_ints hA fun h' tk hk hz => ⟨ad, σ, .int (max (max i j) k), Nx.keeps hz hr hk, ?_, h⟩)
  by_cases h1 : j > i
  · rw [if_pos h1, Int.max_eq_right (Int.le_of_lt h1)]
    by_cases h2 : k > j
    · rw [if_pos h2]; exact ⟨x, by rw [Int.max_eq_right (Int.le_of_lt h2)]⟩
    · rw [if_neg h2]; exact ⟨u, by rw [Int.max_eq_left (Int.not_lt.mp h2)]⟩
  · rw [if_neg h1, Int.max_eq_left (Int.not_lt.mp h1)]
    by_cases h2 : k > i
    · rw [if_pos h2]; exact ⟨x, by rw [Int.max_eq_right (Int.le_of_lt h2)]⟩
    · rw [if_neg h2]; exact ⟨t, by rw [Int.max_eq_left (Int.not_lt.mp h2)]⟩
theorem RVs.two {ad : List Addr} {i j : Int} {l : List Value} (h : RVs ad [.int i, .int j] l) : ∃ t u, l = [.int i t, .int j u] := by
  rcases h with _ | ⟨⟨t, rfl⟩, _ | ⟨⟨u, rfl⟩, _ | _⟩⟩
  exact ⟨t, u, rfl⟩
theorem WC_minT {v : V} {i j : Int} (hA : A.handled = none) (b : ObjAt C σ v (.tuple [.int i, .int j])) (h : Q (.int (min i j)) σ) : WC C A (.builtin "min") [v] σ Q E := by
  refine ⟨?_⟩
  rintro ad s us hr (_ | ⟨rv, _ | _⟩)
  obtain ⟨a, vs, rfl, hl, rvs⟩ := b.tup hr rv
  obtain ⟨t, u, etu⟩ := rvs.two
  have hT : s.heap.IsTuple a (intItems #[(i, t), (j, u)]) := by
    have e : vs = #[.int i t, .int j u] := by rw [← Array.toArray_toList (xs := vs), etu]
    rw [e] at hl; simpa [intItems] using hl
  have hlt : a < s.heap.objs.size := by obtain ⟨_, e, _⟩ := hl; exact Heap.lt_size e
  refine wpAny_sz (call_min_walk (wpAny_pyIter_tuple hT ?_))
  refine ⟨_, [_, a], [_], _, _, _, _, rfl, Walks.tuple (A := A.in1) hA _ a (Nat.ne_of_lt hlt) (intItems #[(i, t), (j, u)]), ⟨⟨_, Heap.get?_push_size _ rfl, rfl, rfl⟩, hT.push _⟩, fun d hd => ?_, by simp [intItems], CmpOf.ints_lt (numAt #[(i, t), (j, u)]) (fun _ _ => intItems_at), fun v h' tk hP hk hz => ?_⟩
  · show d < (s.heap.push _).objs.size
    rw [Heap.size_push]
    rcases List.mem_cons.mp hd with rfl | hd
    · exact Nat.lt_succ_self _
    · rcases List.mem_cons.mp hd with rfl | hd
      · exact Nat.lt_succ_of_lt hlt
      · cases hd
  · have hold : ∀ d o, s.heap.get? d = some o → h'.get? d = some o := fun d o e => by
      refine hk d o (fun hm => ?_) (Heap.get?_push_of_some _ e)
      rcases List.mem_cons.mp hm with e1 | hm
      · have := Heap.lt_size e; rw [e1] at this; exact Nat.lt_irrefl _ this
      · cases hm
    refine ⟨ad, σ, .int (min i j), Nx.keeps hz hr hold, ?_, h⟩
    have hP' : (intItems #[(i, t), (j, u)])[argBest (fun a b => decide (numAt #[(i, t), (j, u)] a < numAt #[(i, t), (j, u)] b)) 1]? = some v := by
      have hsz2 : (intItems #[(i, t), (j, u)]).size - 1 = 1 := by simp [intItems]
      rw [← hsz2]; exact hP
    by_cases hji : j < i
    · have e : argBest (fun a b => decide (numAt #[(i, t), (j, u)] a < numAt #[(i, t), (j, u)] b)) 1 = 1 := by simp [argBest, numAt, hji]
      rw [e] at hP'
      have : v = .int j u := by simpa [intItems] using hP'.symm
      subst this; exact ⟨u, by rw [Int.min_eq_right (Int.le_of_lt hji)]⟩
    · have e : argBest (fun a b => decide (numAt #[(i, t), (j, u)] a < numAt #[(i, t), (j, u)] b)) 1 = 0 := by simp [argBest, numAt, hji]
      rw [e] at hP'
      have : v = .int i t := by simpa [intItems] using hP'.symm
      subst this; exact ⟨t, by rw [Int.min_eq_left (Int.not_lt.mp hji)]⟩
theorem is_none_n (h : Q (.bool true) σ) : WOp2 C A (compareOp .Is) .none .none σ Q E := by
  refine ⟨?_⟩
  rintro ad s x y hr rfl rfl
  exact is_none (PE.here (v := .bool true) hr rfl h)
theorem is_none_r {j : Nat} (h : Q (.bool false) σ) : WOp2 C A (compareOp .Is) (.ref j) .none σ Q E := by
  refine ⟨?_⟩
  rintro ad s x y hr ⟨a, ha, rfl⟩ rfl
  exact is_none (PE.here (v := .bool false) hr rfl h)

/- a dict display with two names -/
theorem WE_dict2 {k1 k2 : Str} {n1 n2 : Nat} {p1 p2 pos : Pos} {e1 e2 : PySem.Expr} (hne : k1 ≠ k2)
    (h : WE C A env e1 ρ σ (fun v1 σ1 => WE C A env e2 ρ σ1 (fun v2 σ2 => Q (.ref σ2.length) (σ2 ++ [.ns [(k1, v1), (k2, v2)]])) E) E) :
    WE C A env (.Dict [some (.Constant (.str k1) n1 p1), some (.Constant (.str k2) n2 p2)] [e1, e2] pos) ρ σ Q E := by
  refine ⟨?_⟩
  intro ad s hr er
  have m0 : Nx C [] ad s ad σ { s with heap := s.heap.push { cls := .type "dict", data := .dict #[] } } := Nx.push _ hr
  have g0 : ({ s with heap := s.heap.push { cls := .type "dict", data := .dict #[] } } : Shared).heap.get? s.heap.objs.size = some { cls := .type "dict", data := .dict #[] } := Heap.get?_push_size _ rfl
  have fr := hr.fresh (Nat.le_refl s.heap.objs.size)
  refine wpAny_Dict_pairs (knd := strKind C.prog C.w) (pairs := [(eval (.Constant (.str k1) n1 p1) env, do let x ← eval e1 env; standAt pos; pure x), (eval (.Constant (.str k2) n2 p2) env, do let x ← eval e2 env; standAt pos; pure x)]) rfl (by simp) (by simp) ?_
  refine evalPairs_cons (wpAny_Constant_str ?_)
  have m1 := m0.trans (Nx.tok (s.toks + 1) m0.hr)
  refine wpAny_bind (wpAny_mono (h.run ad _ m1.hr (er.next m1)) ?_ fun _ _ x => x)
  rintro x1 s2 ⟨ad2, σ2, v1, m2, r1, h2⟩
  refine wpAny_bind (wpAny_standAt (wpAny_pure ?_))
  refine evalPairs_cons (wpAny_Constant_str ?_)
  have m3 := (m1.trans m2).trans (Nx.tok (s2.toks + 1) m2.hr)
  refine wpAny_bind (wpAny_mono (h2.run ad2 _ m3.hr (er.next m3)) ?_ fun _ _ x => x)
  rintro x2 s4 ⟨ad4, σ4, v2, m4, r2, h4⟩
  refine wpAny_bind (wpAny_standAt (wpAny_pure (evalPairs_nil ?_)))
  have m := m3.trans m4
  have mm : Nx C [] ad { s with heap := s.heap.push { cls := .type "dict", data := .dict #[] } } ad4 σ4 s4 := ((Nx.tok (s.toks + 1) m0.hr).trans m2).trans ((Nx.tok (s2.toks + 1) m2.hr).trans m4)
  have g4 := mm.same _ _ g0 fr.2 (by simp)
  have nin4 : s.heap.objs.size ∉ ad4 := mm.notin g0 fr.2
  refine ⟨[(k1, x1), (k2, x2)], ⟨strKind_is _ _ _ _, rfl, strKind_is _ _ _ _, rfl, trivial⟩, ⟨_, #[], 0, g4, ⟨rfl, rfl, rfl⟩, rfl, fun e he => by simp at he, .nil, List.nodup_nil⟩, fun h' D hs => ?_⟩
  obtain ⟨o, es', ep, ho, ⟨hc1, hc2, hc3⟩, hd, hks, hp, hn⟩ := D
  obtain ⟨oc, odi, oda, osl⟩ := o
  dsimp only at hc1 hc2 hc3 hd
  subst hc1 hc2 hc3 hd
  have emg : merged ([] : List (Str × Value)) [(k1, x1), (k2, x2)] = [(k1, x1), (k2, x2)] := by simp [merged, PySem.stored, hne]
  rw [emg] at hp
  have rk : RKs ad4 [(k1, v1), (k2, v2)] [(k1, x1), (k2, x2)] := .cons (m4.rv r1) (.cons r2 .nil)
  have hr' : HR C ad4 σ4 h' := m.hr.same fun b ob hb e => (hs.2 b (by
    rintro rfl
    rcases hb with hb | hb
    · rw [fr.1] at hb; cases hb
    · exact nin4 hb)).trans e
  obtain ⟨nw, ep4, hnw⟩ := m.pre
  obtain ⟨h5, tk5, e5⟩ := m.eq
  have fin : HR C (ad4 ++ [s.heap.objs.size]) (σ4 ++ [.ns [(k1, v1), (k2, v2)]]) h' := HR.own hr' ho fr.1 nin4 (hr.freshLow (Nat.le_refl _)) ⟨es', ep, rfl, REs.of hp (fun e he => hks e (Array.mem_toList_iff.mp he)) rk⟩
  refine ⟨ad4 ++ [s.heap.objs.size], _, .ref σ4.length, ⟨⟨h', _, by rw [e5]⟩, ⟨nw ++ [s.heap.objs.size], by rw [ep4, List.append_assoc], fun a ha => ?_⟩, by show s.heap.objs.size ≤ h'.objs.size; rw [hs.1]; exact m.size, fun b ob e nb _ => ?_, fin⟩, RV.last hr'.len.symm, h4⟩
  · rcases List.mem_append.mp ha with ha | ha
    · exact hnw a ha
    · rw [List.mem_singleton.mp ha]; exact Nat.le_refl _
  · exact (hs.2 b (Nat.ne_of_lt (Heap.lt_size e))).trans (m.same b ob e nb (by simp))

theorem Itb_tuple {v : V} {xs : List V} (hA : A.handled = none) (b : ObjAt C σ v (.tuple xs)) : Itb C A v σ xs.length (fun i => xs.getD i .none) (fun σ' => ObjAt C σ' v (.tuple xs)) E := by
  refine ⟨?_⟩
  intro ad s x hr rv
  obtain ⟨a, vs, rfl, hl, rvs⟩ := b.tup hr rv
  refine wpAny_pyIter_tuple hl ⟨s.heap.objs.size, fun i h => h.IsTupleIter s.heap.objs.size a i, rfl, ?_, ?_, Nat.le_refl _, Nx.push _ hr⟩
  · refine ⟨?_, ?_, ?_, ?_, fun i s Q E st hQ => wpAny_pyIter_tupleiter st hQ, ?_⟩
    · rintro i h h' ⟨o, ho, r⟩ e
      exact ⟨o, by rw [e]; exact ho, r⟩
    · rintro i h ⟨o, ho, r⟩; exact ⟨o, ho⟩
    · rintro i ad' σ' s' Q E' hi ⟨nw, rfl⟩ hr' b' st hQ
      obtain ⟨a', vs', e, hl', rvs'⟩ := b'.tup hr' (rv.mono (nw := nw))
      cases e
      obtain ⟨u, hu, ru⟩ := rvs'.getD hi
      exact wpAny_pyNext_tuple_item st hl' (x := u) (by rw [← Array.getElem?_toList]; exact hu) fun h' hit hs => hQ u h' s'.toks ru hit hs
    · rintro ad' σ' s' Q E' ⟨nw, rfl⟩ hr' b' st hQ
      obtain ⟨a', vs', e, hl', rvs'⟩ := b'.tup hr' (rv.mono (nw := nw))
      cases e
      refine wpAny_pyNext_tuple_end hA st hl' ?_ fun h' he => ?_
      · rw [← Array.getElem?_toList]; exact List.getElem?_eq_none (by rw [← rvs'.length]; exact Nat.le_refl _)
      · exact hQ h' s'.toks fun b o hb e => he b o hb e
    · rintro i s' t u Q E' ⟨o, ho, hc, hd⟩ hq
      exact notOwned ho (by rw [hc, hd]; rfl) hq
  · exact ⟨_, Heap.get?_push_size _ rfl, rfl, rfl⟩
end
end Mine

-- part Aw30
set_option autoImplicit false
set_option linter.unusedVariables false
namespace Mine
open PySem PySem.W PyProof.Rows

/-- a shadow: an abstract heap of which some objects are hidden; the lists and tuples that it shows are there -/
structure Sh (τ σ : AH) : Prop where
  len : τ.length = σ.length
  l : ∀ (j : Nat) (xs : List V), τ[j]? = some (.list xs) → σ[j]? = some (.list xs)
  t : ∀ (j : Nat) (xs : List V), τ[j]? = some (.tuple xs) → σ[j]? = some (.tuple xs)
theorem Sh.refl {σ : AH} : Sh σ σ := ⟨rfl, fun _ _ h => h, fun _ _ h => h⟩
theorem Sh.app {τ σ : AH} (h : Sh τ σ) (J : AH) : Sh (τ ++ J) (σ ++ J) := by
  refine ⟨by simp [h.len], fun j xs e => ?_, fun j xs e => ?_⟩ <;>
  · by_cases hj : j < τ.length
    · rw [List.getElem?_append_left hj] at e
      rw [List.getElem?_append_left (by rw [← h.len]; exact hj)]
      first | exact h.l j xs e | exact h.t j xs e
    · rw [List.getElem?_append_right (by omega)] at e
      rw [List.getElem?_append_right (by rw [← h.len]; omega), ← h.len]; exact e
/-- one object hidden -/
theorem Sh.hide {τ σ : AH} (h : Sh τ σ) (o : O) : Sh (τ ++ [.ns []]) (σ ++ [o]) := by
  refine ⟨by simp [h.len], fun j xs e => ?_, fun j xs e => ?_⟩ <;>
  · by_cases hj : j < τ.length
    · rw [List.getElem?_append_left hj] at e
      rw [List.getElem?_append_left (by rw [← h.len]; exact hj)]
      first | exact h.l j xs e | exact h.t j xs e
    · rw [List.getElem?_append_right (by omega)] at e
      have : j - τ.length = 0 := by
        have := (List.getElem?_eq_some_iff.mp e).1
        simp at this; omega
      rw [this] at e; cases e
section
variable {C : Cx} {A : Around} {env : Env} {ρ : Loc} {σ τ : AH} {E : EX} {Q : V → AH → Prop}
theorem ObjAt.shl {v : V} {xs : List V} (h : Sh τ σ) (o : ObjAt C τ v (.list xs)) : ObjAt C σ v (.list xs) := by
  cases v with
  | ref j => exact h.l j xs o
  | k x => cases x <;> exact o
  | _ => exact o.elim
theorem ObjAt.sht {v : V} {xs : List V} (h : Sh τ σ) (o : ObjAt C τ v (.tuple xs)) : ObjAt C σ v (.tuple xs) := by
  cases v with
  | ref j => exact h.t j xs o
  | k x => cases x <;> exact o
  | _ => exact o.elim
mutual
theorem Rd.sh (h : Sh τ σ) : ∀ {v : V} {d : PyData}, Rd C τ v d → Rd C σ v d
  | _, _, .none => .none
  | _, _, .bool => .bool
  | _, _, .int => .int
  | _, _, .str => .str
  | _, _, .list o r => .list (o.shl h) (RdAll.sh h r)
  | _, _, .tuple o r => .tuple (o.sht h) (RdAll.sh h r)
theorem RdAll.sh (h : Sh τ σ) : ∀ {v : List V} {d : List PyData}, RdAll C τ v d → RdAll C σ v d
  | _, _, .nil => .nil
  | _, _, .cons r rs => .cons (Rd.sh h r) (RdAll.sh h rs)
end
theorem Rd.tuple_inv {v : V} {ds : List PyData} (h : Rd C σ v (.tuple ds)) : ∃ xs, ObjAt C σ v (.tuple xs) ∧ RdAll C σ xs ds := by
  cases h with | tuple o r => exact ⟨_, o, r⟩
theorem RdAll.inv1 {vs : List V} {a : PyData} (h : RdAll C σ vs [a]) : ∃ x, vs = [x] ∧ Rd C σ x a := by
  cases h with | cons x y => cases y; exact ⟨_, rfl, x⟩
theorem RdAll.inv2 {vs : List V} {a b : PyData} (h : RdAll C σ vs [a, b]) : ∃ x y, vs = [x, y] ∧ Rd C σ x a ∧ Rd C σ y b := by
  cases h with | cons x r => obtain ⟨y, rfl, hy⟩ := r.inv1; exact ⟨_, y, rfl, x, hy⟩
theorem RdAll.inv3 {vs : List V} {a b c : PyData} (h : RdAll C σ vs [a, b, c]) : ∃ x y z, vs = [x, y, z] ∧ Rd C σ x a ∧ Rd C σ y b ∧ Rd C σ z c := by
  cases h with | cons x r => obtain ⟨y, z, rfl, hy, hz⟩ := r.inv2; exact ⟨_, y, z, rfl, x, hy, hz⟩
theorem Rd.int_inv {v : V} {i : Int} (h : Rd C σ v (.int i)) : v = .int i := by cases h; rfl
theorem Rd.pair {v : V} {i j : Int} (h : Rd C σ v (.tuple [.int i, .int j])) : ObjAt C σ v (.tuple [.int i, .int j]) := by
  obtain ⟨xs, o, r⟩ := h.tuple_inv
  obtain ⟨x, y, rfl, hx, hy⟩ := r.inv2
  rw [hx.int_inv, hy.int_inv] at o; exact o
/-- a comprehension whose elements are data, seen in a shadow; the heap but grows -/
theorem CompGo_shadow {l2 : List (Str × Value)} {sc : Scope} {x : Str} {elt : PySem.Expr} {capt : Loc} {K : List V → AH → Prop} {n : Nat} {P : Nat → V} {Cd : AH → Prop} {σ1 : AH} (τ1 : AH) (R : Nat → PyData → Prop) (hz : n ≤ sizeLine) (hcd : ∀ J, Cd (σ1 ++ J))
    (h : ∀ i pv J, i < n → P i = pv → ∀ cenv, Kn cenv (relab sc.names) → WE (C.wg l2) A cenv elt ((x, some pv) :: capt) (σ1 ++ J) (fun v σ3 => ∃ J' d, σ3 = σ1 ++ J ++ J' ∧ R i d ∧ Rd C (τ1 ++ J ++ J') v d) (fun _ _ => False))
    (hk : ∀ J acc ds, RdAll C (τ1 ++ J) acc ds → ds.length = n → (∀ i d, ds[i]? = some d → R i d) → K acc (σ1 ++ J)) : CompGo C A l2 sc x [] elt capt K n P Cd σ1 := by
  refine ⟨hz, fun i acc σ' => ∃ J ds, σ' = σ1 ++ J ∧ RdAll C (τ1 ++ J) acc ds ∧ ds.length = i ∧ ∀ i d, ds[i]? = some d → R i d, ⟨[], [], by simp, .nil, rfl, fun i d e => by simp at e⟩, ?_, ?_⟩
  · rintro i acc σ' pv hi hp ⟨J, ds, rfl, hr, hl, hR⟩
    refine ⟨hcd J, fun cenv hc => WIf_nil ?_⟩
    rw [if_pos rfl]
    refine (h i pv J hi hp cenv hc).conseq ?_
    rintro v σ3 ⟨J', d, rfl, hd, rv⟩
    refine ⟨J ++ J', ds ++ [d], by simp, ?_, by simp [hl], fun k d' e => ?_⟩
    · rw [← List.append_assoc]; exact hr.up.snoc rv
    · by_cases hk : k < ds.length
      · rw [List.getElem?_append_left hk] at e; exact hR k d' e
      · rw [List.getElem?_append_right (by omega)] at e
        have hk0 : k - ds.length = 0 := by
          have := (List.getElem?_eq_some_iff.mp e).1
          simp at this; omega
        rw [hk0] at e
        have : k = i := by omega
        cases e; rw [this]; exact hd
  · rintro acc σ' ⟨J, ds, rfl, hr, hl, hR⟩
    exact ⟨hcd J, hk J acc ds hr hl hR⟩
end
/- matrices -/
noncomputable def rowI (r : List Int) : PyData := .list (r.map .int)
noncomputable def matD (M : List (List Int)) : PyData := .list (M.map rowI)
/-- a matrix of h rows of w numbers, whichever -/
noncomputable def IsMat (h w : Nat) (d : PyData) : Prop := ∃ M : List (List Int), d = matD M ∧ M.length = h ∧ ∀ r ∈ M, r.length = w
section
variable {C : Cx} {σ τ : AH}
theorem Rd.rowI_inv {v : V} {r : List Int} (h : Rd C σ v (Mine.rowI r)) : ObjAt C σ v (.list (r.map .int)) := Rd.ints_inv h
theorem Rd.mat {v : V} {M : List (List Int)} (h : Rd C σ v (matD M)) : ∃ xs, ObjAt C σ v (.list xs) ∧ xs.length = M.length ∧ ∀ (i : Nat) r, M[i]? = some r → ∃ x, xs[i]? = some x ∧ Rd C σ x (rowI r) := by
  obtain ⟨xs, o, r⟩ := h.list_inv
  refine ⟨xs, o, by have := r.len; simpa using this, fun i r' e => ?_⟩
  exact r.get (by rw [List.getElem?_map, e]; rfl)
theorem ex_rows {w : Nat} : ∀ {ds : List PyData}, (∀ (i : Nat) d, ds[i]? = some d → ∃ r : List Int, d = rowI r ∧ r.length = w) → ∃ M : List (List Int), PyData.list ds = matD M ∧ M.length = ds.length ∧ ∀ r ∈ M, r.length = w
  | [], _ => ⟨[], rfl, rfl, fun _ h => by cases h⟩
  | d :: ds, h => by
    obtain ⟨r, rfl, hr⟩ := h 0 d rfl
    obtain ⟨M, e, hl, hM⟩ := ex_rows (w := w) (ds := ds) fun i d e => h (i + 1) d (by simpa using e)
    refine ⟨r :: M, ?_, by simp [hl], fun x hx => ?_⟩
    · injection e with e; rw [matD, List.map_cons, e]
    · rcases List.mem_cons.mp hx with rfl | hx
      · exact hr
      · exact hM x hx
end
end Mine

-- part Aw31
set_option autoImplicit false
set_option linter.unusedVariables false
namespace Mine
open PySem PySem.W PyProof.Rows

/- a comprehension whose own name is a cell (read by an inner one) -/
abbrev cellO : Obj := { cls := .type "cell", data := .cell none }
abbrev dictO : Obj := { cls := .type "dict", data := .dict #[] }
theorem cells_none : ∀ {names : List (Str × NameKind)}, names.filter (fun p => p.2 == .cell) = [] → ∀ (n : Nat) (acc : List (Str × Addr)) (h : Heap), cellsFrom n names acc = acc ∧ pushCells h names = h
  | [], _, n, acc, h => ⟨rfl, rfl⟩
  | (y, k) :: r, e, n, acc, h => by
    rw [List.filter_cons] at e
    by_cases hk : (k == NameKind.cell) = true
    · rw [if_pos hk] at e; cases e
    · rw [if_neg hk] at e
      unfold cellsFrom pushCells
      rw [if_neg hk, if_neg hk]
      exact cells_none e n acc h
theorem cells_one {x : Str} : ∀ {names : List (Str × NameKind)}, names.filter (fun p => p.2 == .cell) = [(x, .cell)] → ∀ (n : Nat) (acc : List (Str × Addr)) (h : Heap), cellsFrom n names acc = (x, n) :: acc ∧ pushCells h names = h.push cellO
  | [], e, n, acc, h => by cases e
  | (y, k) :: r, e, n, acc, h => by
    rw [List.filter_cons] at e
    by_cases hk : (k == NameKind.cell) = true
    · rw [if_pos hk] at e
      injection e with e1 e2
      cases e1
      unfold cellsFrom pushCells
      rw [if_pos hk, if_pos hk]
      exact cells_none e2 _ _ _
    · rw [if_neg hk] at e
      unfold cellsFrom pushCells
      rw [if_neg hk, if_neg hk]
      exact cells_one e n acc h
theorem newEnv_one {M : Model} {A : Around} {E : EX} {s : Shared} {scope : Scope} {globals : Addr} {closure : List (Str × Addr)} {qual : Str} {outer : Env} {x : Str} {Q : Env → Shared → Prop} (h1 : scope.names.filter (fun p => p.2 == .cell) = [(x, .cell)])
    (hQ : Q { scope := scope, locals := s.heap.objs.size, globals := globals, cells := (x, s.heap.objs.size + 1) :: closure, qual := qual, func := none, code := outer.code, frame := outer.frame, builtins := outer.builtins } { s with heap := (s.heap.push dictO).push cellO }) :
    wpAny M A (newFunctionEnv scope globals closure [] qual none .none (some outer)) Q E s := by
  simp only [newFunctionEnv, Option.isSome_some, if_true]
  refine wpAny_bind (wpAny_alloc ?_)
  refine wpAny_bind (wpAny_layCells _ (fun name kind cells => by cases hkc : kind == NameKind.cell <;> simp [hkc]) _ _ _ _ ?_)
  rw [(cells_one h1 0 closure (s.heap.push dictO)).2, (cells_one h1 _ closure (s.heap.push dictO)).1]
  rw [show ({ s with heap := s.heap.push dictO } : Shared).heap.objs.size = s.heap.objs.size + 1 from Heap.size_push ..]
  exact wpAny_pure hQ
noncomputable def compOkC (onames : List (Str × NameKind)) (sc : Scope) (x : Str) (capt gl : List Str) : Bool :=
  sc.names.all (fun p => (p.2 != .local || sc.names.lookup p.1 == some .local) && (p.2 != .free || (capt.contains p.1 && onames.lookup p.1 == some .cell)))
  && sc.names.lookup x == some .cell && nmOk x && !capt.contains x
  && capt.all (fun y => nmOk y && sc.names.lookup y == some .free)
  && gl.all (fun y => nmOk y && sc.names.lookup y == some .globalImplicit)
  && sc.names.filter (fun p => p.2 == .cell) == [(x, .cell)]
structure CompOkC (onames : List (Str × NameKind)) (sc : Scope) (x : Str) (capt gl : List Str) : Prop where
  one : sc.names.filter (fun p => p.2 == .cell) = [(x, .cell)]
  locs : ∀ y ∈ sc.names, y.2 = .local → sc.names.lookup y.1 = some .local
  free : ∀ n, (n, NameKind.free) ∈ sc.names → n ∈ capt ∧ onames.lookup n = some .cell
  xl : sc.names.lookup x = some .cell
  xn : nmOk x = true
  xc : x ∉ capt
  cap : ∀ y ∈ capt, nmOk y = true ∧ sc.names.lookup y = some .free
  glo : ∀ y ∈ gl, nmOk y = true ∧ sc.names.lookup y = some .globalImplicit
theorem compOkC.ok {onames : List (Str × NameKind)} {sc : Scope} {x : Str} {capt gl : List Str} (h : compOkC onames sc x capt gl = true) : CompOkC onames sc x capt gl := by
  unfold compOkC at h
  simp only [Bool.and_eq_true, List.all_eq_true, Bool.or_eq_true, bne_iff_ne, beq_iff_eq, Bool.not_eq_true', List.contains_eq_mem, decide_eq_true_eq, decide_eq_false_iff_not] at h
  obtain ⟨⟨⟨⟨⟨⟨h1, h2⟩, h3⟩, h4⟩, h5⟩, h6⟩, h7⟩ := h
  refine ⟨h7, fun y hy e => ?_, fun n hn => ?_, h2, h3, h4, h5, h6⟩
  · exact ((h1 y hy).1).resolve_left fun h => h e
  · exact ((h1 _ hn).2).resolve_left fun h => h rfl
section
variable {C : Cx} {A : Around} {env : Env} {ρ : Loc} {σ : AH} {E : EX} {Q : V → AH → Prop}
theorem comp_erC {l l2 : List (Str × Value)} {onames : List (Str × NameKind)} {sc : Scope} {x : Str} {capt : Loc} {ad : List Addr} {h : Heap} {Cl Cx : Addr} {m : Str → Option Value} {v : V} {u : Value} {oc : Obj} (hkn : Kn env onames)
    (ok : CompOkC onames sc x (capt.map (·.1)) (l2.map (·.1))) (hkind : sc.kind = .function) (hnd : (capt.map (·.1)).Nodup) (hcap : ∀ p ∈ capt, p ∈ ρ) (er : ER (C.wg l) env ρ ad h)
    (hn : h.Ns Cl m) (hoc : h.get? Cx = some oc) (hdc : oc.data = .cell (some u)) (rv : RV ad v u) (hG : C.G.get? Cl = none) (had : Cl ∉ ad) (hCl : Cl ∉ fa env) (hGx : C.G.get? Cx = none) (hadx : Cx ∉ ad) (hCx : Cx ∉ fa env) (hne : Cx ≠ Cl) :
    ER (C.wg l2) (compEnvC sc ((x, Cx) :: clOf env sc.names []) Cl env) ((x, some v) :: capt) ad h ∧ Kn (compEnvC sc ((x, Cx) :: clOf env sc.names []) Cl env) (relab sc.names) := by
  have hcell : ∀ n, (n, NameKind.free) ∈ sc.names → env.kindOf n = some .cell := fun n hn => hkn n _ (ok.free n hn).2
  have hsome : ∀ n, (n, NameKind.free) ∈ sc.names → (env.cells.lookup n).isSome = true := by
    intro n hn
    obtain ⟨p, hp, rfl⟩ := List.mem_map.mp (ok.free n hn).1
    rcases er.kd p.1 p.2 (hcap p hp) with e | ⟨_, e⟩
    · rw [hcell _ hn] at e; cases e
    · exact e
  have hmem := clOf_mem (env := env) (ns := sc.names) (cs := []) hsome (by simp)
  have hlk : ∀ y c, ((x, Cx) :: clOf env sc.names []).lookup y = some c → (y = x ∧ c = Cx) ∨ (y ≠ x ∧ env.cells.lookup y = some c) := by
    intro y c e
    rw [List.lookup_cons] at e
    cases hb : y == x with
    | true => rw [hb] at e; cases e; exact .inl ⟨eq_of_beq hb, rfl⟩
    | false => rw [hb] at e; exact .inr ⟨by simpa using hb, hmem (y, c) (Mine.mem_of_lookup e)⟩
  have relabE : (relabel sc env).names = relab sc.names := by
    show List.map _ _ = List.map _ _
    refine List.map_congr_left fun p hp => ?_
    obtain ⟨n, k⟩ := p
    by_cases hk : (k == NameKind.free) = true
    · have hk' : k = .free := by simpa using hk
      subst hk'
      simp [hcell n hp, er.kind]
    · simp [hk]
  have kn : Kn (compEnvC sc ((x, Cx) :: clOf env sc.names []) Cl env) (relab sc.names) := by
    intro y k e
    show (relabel sc env).names.lookup y = _
    rw [relabE]; exact e
  have kx : (compEnvC sc ((x, Cx) :: clOf env sc.names []) Cl env).kindOf x = some .cell := kn x _ (relab_lookup ok.xl)
  have kf : ∀ y ∈ capt.map (·.1), (compEnvC sc ((x, Cx) :: clOf env sc.names []) Cl env).kindOf y = some .cell := fun y hy => kn y _ (relab_lookup (ok.cap y hy).2)
  have incl : ∀ y c, env.cells.lookup y = some c → c ∈ fa env := fun y c e => mem_cells e
  refine ⟨⟨hkind, er.glob, er.blt, ?_, ?_, ⟨m, hn, ?_⟩, ?_, ?_, ?_, ?_, ?_, ?_, ?_⟩, kn⟩
  · exact List.nodup_cons.mpr ⟨ok.xc, hnd⟩
  · intro y w hy
    rcases List.mem_cons.mp hy with e | hy
    · cases e; exact .inr ⟨.inl kx, by show (List.lookup x ((x, Cx) :: _)).isSome = true; simp⟩
    · have hy' : y ∈ capt.map (·.1) := List.mem_map.mpr ⟨_, hy, rfl⟩
      exact .inr ⟨.inl (kf y hy'), lookup_cons_isSome (clOf_some (.inl (Mine.mem_of_lookup (ok.cap y hy').2)))⟩
  · intro y w hy hk
    rcases List.mem_cons.mp hy with e | hy
    · cases e; rw [kx] at hk; cases hk
    · rw [kf y (List.mem_map.mpr ⟨_, hy, rfl⟩)] at hk; cases hk
  · intro y c hc
    rcases hlk y c hc with ⟨rfl, rfl⟩ | ⟨hyx, hc'⟩
    · refine ⟨oc, _, hoc, hdc, fun z hz hk => ?_⟩
      rcases List.mem_cons.mp hz with e | hz
      · cases e; exact ⟨u, rfl, rv⟩
      · exact absurd (List.mem_map.mpr ⟨_, hz, rfl⟩) ok.xc
    · obtain ⟨o, w, h1, h2, h3⟩ := er.cell y c hc'
      refine ⟨o, w, h1, h2, fun z hz hk => ?_⟩
      rcases List.mem_cons.mp hz with e | hz
      · cases e; exact absurd rfl hyx
      · refine h3 z (hcap _ hz) ?_
        have := hcell y (Mine.mem_of_lookup (ok.cap y (List.mem_map.mpr ⟨_, hz, rfl⟩)).2)
        rw [this]; decide
  · intro y z c h1 h2
    rcases hlk y c h1 with ⟨rfl, rfl⟩ | ⟨hyx, hc'⟩
    · rcases hlk z c h2 with ⟨rfl, _⟩ | ⟨_, hz⟩
      · rfl
      · exact absurd (incl _ _ hz) hCx
    · rcases hlk z c h2 with ⟨rfl, e⟩ | ⟨_, hz⟩
      · exact absurd (e ▸ incl _ _ hc') hCx
      · exact er.cinj y z c hc' hz
  · intro y c hc e
    have e : c = Cl := e
    rcases hlk y c hc with ⟨_, rfl⟩ | ⟨_, hc'⟩
    · exact hne e
    · exact hCl (e ▸ incl _ _ hc')
  · intro a ha
    rcases List.mem_cons.mp ha with e | ha
    · subst e; exact ⟨hG, had⟩
    · rcases List.mem_cons.mp ha with e | ha
      · subst e; exact ⟨hGx, hadx⟩
      · obtain ⟨p, hp, rfl⟩ := List.mem_map.mp ha
        exact er.off _ (mem_cells (hmem p hp))
  · intro a ha
    rcases List.mem_cons.mp ha with e | ha
    · subst e; exact hn.lt
    · rcases List.mem_cons.mp ha with e | ha
      · subst e; exact Heap.lt_size hoc
      · obtain ⟨p, hp, rfl⟩ := List.mem_map.mp ha
        exact er.lt _ (mem_cells (hmem p hp))
  · intro y w hy
    rcases List.mem_cons.mp hy with e | hy
    · cases e; exact ok.xn
    · exact (ok.cap y (List.mem_map.mpr ⟨_, hy, rfl⟩)).1
  · intro y w hy
    have := ok.glo y (List.mem_map.mpr ⟨_, hy, rfl⟩)
    exact ⟨kn y _ (relab_lookup this.2), this.1⟩
theorem comp_coreC {l l2 : List (Str × Value)} {onames : List (Str × NameKind)} {sc : Scope} {x : Str} {px : Pos} {elt iter : PySem.Expr} {ifs : List PySem.Expr} {pos : Pos} {capt : Loc} {ad : List Addr} {s2 : Shared} {I : Addr} {n : Nat} {P : Nat → V} {Cd : AH → Prop}
    {St : Nat → Heap → Prop} {RR : Value → Addr → Result → Shared → Prop} {Inv : Nat → List V → AH → Prop}
    (hkn : Kn env onames) (ok : CompOkC onames sc x (capt.map (·.1)) (l2.map (·.1))) (hkind : sc.kind = .function) (hnd : (capt.map (·.1)).Nodup) (hcap : ∀ p ∈ capt, p ∈ ρ) (hl2 : ∀ p ∈ l2, p ∈ l ∨ GloIs C p)
    (hr : HR (C.wg l) ad σ s2.heap) (er : ER (C.wg l) env ρ ad s2.heap) (wk : Wk (C.wg l) A ad I n P Cd St) (st0 : St 0 s2.heap) (hI : I ∉ ad) (hIfa : I ∉ fa env) (hIG : C.G.get? I = none) (hsz : n ≤ sizeLine) (inv0 : Inv 0 [] σ)
    (turn : ∀ i acc σ', i < n → Inv i acc σ' → Cd σ' ∧ ∀ cenv, Kn cenv (relab sc.names) → WIf (C.wg l2) A cenv true ifs ((x, some (P i)) :: capt) σ'
      (fun b σ2 => if b = true then WE (C.wg l2) A cenv elt ((x, some (P i)) :: capt) σ2 (fun v σ3 => Inv (i + 1) (acc ++ [v]) σ3) (fun _ _ => False) else Inv (i + 1) acc σ2) (fun _ _ => False))
    (hcd : ∀ acc σ', Inv n acc σ' → Cd σ')
    (hRR : ∀ D Cl ad' σ' vs s' m, s'.heap.Ns Cl m → s2.heap.objs.size ≤ Cl → Cl ∉ ad' → Nx (C.wg l) [I] ad s2 ad' (σ' ++ [.list vs]) s' → RV ad' (.ref σ'.length) (.ref D) → Inv n vs σ' → RR (.ref D) Cl (.ok .next) s') :
    wpAny (model C.prog C.w) A (newList []) (fun acc s3 => wpAny (model C.prog C.w) A (newFunctionEnv sc env.globals (clOf env sc.names []) [] env.qual none .none (some env)) (fun cenv s4 =>
      codeAny (model C.prog C.w) A (.compStart (.ListComp elt [⟨.Name x px, iter, ifs, 0⟩] sc pos) 0 (.ref I) acc { cenv with scope := relabel sc env }) (RR acc cenv.locals) s4) E s3) E s2 := by
  refine wpAny_newObj_type (newEnv_one ok.one ?_)
  dsimp only
  generalize hH2 : s2.heap.push { cls := .type "list", dict := none, data := .seq ([] : List Value).toArray } = H2
  have hC : H2.objs.size = s2.heap.objs.size + 1 := by rw [← hH2, Heap.size_push]
  generalize hh1 : (H2.push dictO).push cellO = h1
  have hz1 : h1.objs.size = s2.heap.objs.size + 3 := by rw [← hh1, Heap.size_push, Heap.size_push]; omega
  have old2 : ∀ b o, H2.get? b = some o → h1.get? b = some o := fun b o e => by rw [← hh1]; exact Heap.get?_push_of_some _ (Heap.get?_push_of_some _ e)
  have old : ∀ b o, s2.heap.get? b = some o → h1.get? b = some o := fun b o e => old2 b o (hH2 ▸ Heap.get?_push_of_some _ e)
  have hDC : s2.heap.objs.size ≠ H2.objs.size := by omega
  have hacc : h1.PlainList s2.heap.objs.size #[] := ⟨_, old2 _ _ (hH2 ▸ Heap.get?_push_size _ rfl)⟩
  have hns1 : h1.Ns H2.objs.size (fun _ => none) := (Heap.Ns.new H2 (.type "dict")).keeps fun b o e => by rw [← hh1]; exact Heap.get?_push_of_some _ e
  have hcx1 : h1.get? (H2.objs.size + 1) = some cellO := by rw [← hh1, ← Heap.size_push H2 dictO]; exact Heap.get?_push_size _ rfl
  obtain ⟨oI, hoI⟩ := wk.ex _ _ st0
  have hIlt := nlt (Heap.lt_size hoI)
  have fD := hr.fresh (Nat.le_refl s2.heap.objs.size)
  have fC := hr.fresh (a := H2.objs.size) (by omega)
  have fX := hr.fresh (a := H2.objs.size + 1) (by omega)
  have hClfa : H2.objs.size ∉ fa env := fun hm => absurd (er.lt _ hm) (Nat.not_lt.mpr (by omega))
  have hCxfa : H2.objs.size + 1 ∉ fa env := fun hm => absurd (er.lt _ hm) (Nat.not_lt.mpr (by omega))
  have st1 : St 0 h1 := wk.own _ _ _ st0 ((old I oI hoI).trans hoI.symm)
  have n1 : ∀ t, Nx (C.wg l) [I] ad s2 ad σ { s2 with heap := h1, toks := t } := fun t => ⟨⟨h1, t, rfl⟩, ⟨[], by simp, by simp⟩, by show s2.heap.objs.size ≤ h1.objs.size; omega, fun b o e _ _ => old b o e, hr.keeps old⟩
  have loop : ∀ s3 : Shared, s3 = { s2 with heap := h1 } →
      codeAny (model C.prog C.w) A (.compLoop (.ListComp elt [⟨.Name x px, iter, ifs, 0⟩] sc pos) 0 (.ref I) (.ref s2.heap.objs.size) (compEnvC sc ((x, H2.objs.size + 1) :: clOf env sc.names []) H2.objs.size env)) (RR (.ref s2.heap.objs.size) H2.objs.size) s3 := by
    rintro s3 rfl
    refine compLoopG (fun k s' => ∃ i ad' σ' accV accU m' ox wx, k = n - i ∧ i ≤ n ∧ Nx (C.wg l) [I] ad s2 ad' σ' s' ∧ s2.heap.objs.size ∉ ad' ∧ H2.objs.size ∉ ad' ∧ H2.objs.size + 1 ∉ ad' ∧ I ∉ ad' ∧ s'.heap.Ns H2.objs.size m' ∧ (s'.heap.get? (H2.objs.size + 1) = some ox ∧ ox.data = .cell wx) ∧ s'.heap.PlainList s2.heap.objs.size accU ∧
      RVs ad' accV accU.toList ∧ St i s'.heap ∧ Inv i accV σ' ∧ accV.length ≤ i) ?_ n ⟨0, ad, σ, [], #[], _, _, _, rfl, Nat.zero_le _, n1 _, fD.2, fC.2, fX.2, hI, hns1, ⟨hcx1, rfl⟩, hacc, .nil, st1, inv0, Nat.le_refl _⟩
    rintro k s' ⟨i, ad', σ', accV, accU, m', ox, wx, rfl, hi, n3, hD', hC', hX', hI', hns', ⟨hox', hdx'⟩, hpl', rvs', st', inv', hlen'⟩
    have neI : ∀ b o, C.G.get? b = some o ∨ b ∈ ad' → b ≠ I := by
      rintro b o (e | e) rfl
      · rw [hIG] at e; cases e
      · exact hI' e
    have neX : ∀ b o, C.G.get? b = some o ∨ b ∈ ad' → b ≠ H2.objs.size + 1 := by
      rintro b o (e | e) rfl
      · rw [fX.1] at e; cases e
      · exact hX' e
    by_cases hlt : i < n
    · obtain ⟨cd, tb⟩ := turn i accV σ' hlt inv'
      refine wk.item i ad' σ' s' _ _ hlt (let ⟨nw, p, _⟩ := n3.pre; ⟨nw, p⟩) n3.hr cd st' fun u h' tk ru st'' hsb => ?_
      refine wk.tup (i + 1) { s' with heap := h', toks := tk } _ _ _ _ st'' ?_
      have kx : (compEnvC sc ((x, H2.objs.size + 1) :: clOf env sc.names []) H2.objs.size env).kindOf x = some .cell := by
        show (relabel sc env).names.lookup x = _
        have relabE : (relabel sc env).names = relab sc.names := by
          show List.map _ _ = List.map _ _
          refine List.map_congr_left fun p hp => ?_
          obtain ⟨n, k⟩ := p
          by_cases hk : (k == NameKind.free) = true
          · have hk' : k = .free := by simpa using hk
            subst hk'
            simp [hkn n _ (ok.free n hp).2, er.kind]
          · simp [hk]
        rw [relabE]; exact relab_lookup ok.xl
      have hox2 : h'.get? (H2.objs.size + 1) = some ox := hsb.extBut _ _ (adr_ne (.inr (by omega))) hox'
      refine wpAny_assign_Name (wpAny_storeName_cell (c := H2.objs.size + 1) (show sc.kind = _ from hkind) kx (by show List.lookup x ((x, _) :: _) = _; simp) ⟨ox, hox2, hdx'⟩ fun h2 hv2 hs2 => ?_)
      obtain ⟨ox2, hox2, hdx2⟩ := hv2
      have k2 : ∀ b o, b ≠ I → b ≠ H2.objs.size + 1 → s'.heap.get? b = some o → h2.get? b = some o := fun b o h1 h2 e => hs2.extBut b o h2 (hsb.extBut b o h1 e)
      have hr4 : HR (C.wg l) ad' σ' h2 := n3.hr.same fun b o hb e => k2 b o (neI b o hb) (neX b o hb) e
      have hz4 : s'.heap.objs.size ≤ h2.objs.size := by
        have a1 := hsb.1
        have a2 : h2.objs.size = h'.objs.size := hs2.1
        omega
      have hn2 : h2.Ns H2.objs.size m' := hns'.at' fun o e => k2 _ o (adr_ne (.inr (by omega))) (adr_ne (.inl (by omega))) e
      have er4 : ER (C.wg l) env ρ ad' h2 := er.keep n3.pre (fun b hb o e => k2 b o (fun e' => hIfa (e' ▸ hb)) (fun e' => hCxfa (e' ▸ hb)) (n3.same b o e (er.off b hb).2 (by simp; rintro rfl; exact hIfa hb))) (by have := n3.size; omega)
      obtain ⟨erc, kn⟩ := comp_erC (l2 := l2) hkn ok hkind hnd hcap er4 hn2 hox2 hdx2 ru fC.1 hC' hClfa fX.1 hX' hCxfa (adr_ne (.inr (by omega)))
      have st4 : St (i + 1) h2 := wk.own _ _ _ st'' (by
        obtain ⟨oI', hoI'⟩ := wk.ex _ _ st''
        rw [hoI']; exact hs2.extBut _ _ (adr_ne (b := H2.objs.size + 1) (.inl (by omega))) hoI')
      have hpl4 : h2.PlainList s2.heap.objs.size accU := by
        obtain ⟨c, hc⟩ := hpl'
        exact ⟨c, k2 _ _ (adr_ne (.inr (by omega))) (adr_ne (.inl (by omega))) hc⟩
      have hz5 : H2.objs.size + 1 < h2.objs.size := nlt (Heap.lt_size hox2)
      refine wpAny_mono ((tb _ kn).run ad' _ (hr4.toWg hl2) erc) ?_ fun _ _ f => f.elim
      rintro b s5 ⟨ad5, σ5, n5, h5⟩
      have n35 := fun t => (n3.touch (tk := t) hr4 (by omega) (fun b o h1 h2 e => k2 b o h1 (adr_ne (.inl (by have h2' := nlt h2; omega))) e))
      have done5 : ∀ (adN : List Addr) (σN : AH) (sN : Shared) t, Nx (C.wg l2) [] ad' { s' with heap := h2, toks := t } adN σN sN →
          Nx (C.wg l) [I] ad s2 adN σN sN ∧ s2.heap.objs.size ∉ adN ∧ H2.objs.size ∉ adN ∧ H2.objs.size + 1 ∉ adN ∧ I ∉ adN ∧ sN.heap.Ns H2.objs.size m' ∧ sN.heap.get? (H2.objs.size + 1) = some ox2 ∧ sN.heap.PlainList s2.heap.objs.size accU ∧ St (i + 1) sN.heap ∧ ∃ nw, adN = ad' ++ nw := by
        intro adN σN sN t nN
        have nN' := nN.toWg hr.ok
        obtain ⟨nw, p, q⟩ := nN.pre
        have notin : ∀ a : Nat, a ∉ ad' → a < h2.objs.size → a ∉ adN := by
          intro a h1 h2 hm
          rw [p] at hm
          rcases List.mem_append.mp hm with hm | hm
          · exact h1 hm
          · exact absurd (q a hm) (Nat.not_le.mpr h2)
        refine ⟨(n35 t).trans (nN'.wider (by simp)), notin _ hD' (by omega), notin _ hC' (by omega), notin _ hX' (by omega), notin _ hI' (by omega), hn2.at' fun o e => nN.same _ o e hC' (by simp), nN.same _ _ hox2 hX' (by simp), ?_, ?_, nw, p⟩
        · obtain ⟨c, hc⟩ := hpl4
          exact ⟨c, nN.same _ _ hc hD' (by simp)⟩
        · obtain ⟨oI', hoI'⟩ := wk.ex _ _ st4
          exact wk.own _ _ _ st4 ((nN.same _ _ hoI' hI' (by simp)).trans hoI'.symm)
      cases b with
      | false =>
        obtain ⟨a1, a2, a3, a3x, a4, a5, a5x, a6, a7, nw, a8⟩ := done5 ad5 σ5 s5 _ n5
        exact ⟨n - (i + 1), by omega, i + 1, ad5, σ5, accV, accU, _, _, _, rfl, hlt, a1, a2, a3, a3x, a4, a5, ⟨a5x, hdx2⟩, a6, by rw [a8]; exact rvs'.mono, a7, h5, by omega⟩
      | true =>
        have h5' : WE (C.wg l2) A _ elt ((x, some (P i)) :: capt) σ5 (fun v σ3 => Inv (i + 1) (accV ++ [v]) σ3) (fun _ _ => False) := h5
        refine wpAny_mono (h5'.run ad5 s5 n5.hr (erc.next n5)) ?_ fun _ _ f => f.elim
        rintro y s6 ⟨ad6, σ6, v, n6, r6, inv6⟩
        obtain ⟨a1, a2, a3, a3x, a4, a5, a5x, a6, a7, nw, a8⟩ := done5 ad6 σ6 s6 _ (n5.trans n6)
        refine wpAny_list_append_plain a6 (fun h' hp hs => ?_) (by rw [← Array.length_toList, ← rvs'.length]; omega)
        have hr7 : HR (C.wg l) ad6 σ6 h' := a1.hr.same fun b o hb e => hs.extBut b o (by
          rintro rfl
          rcases hb with e | e
          · have : C.G.get? s2.heap.objs.size = some o := e
            rw [fD.1] at this; cases this
          · exact a2 e) e
        refine ⟨n - (i + 1), by omega, i + 1, ad6, σ6, accV ++ [v], accU.push y, _, _, _, rfl, hlt, a1.touch hr7 (Nat.le_of_eq hs.1.symm) (fun b o h1 h2 e => hs.extBut b o (adr_ne (.inl (nlt h2))) e), a2, a3, a3x, a4, a5.at' fun o e => hs.extBut _ o (Ne.symm hDC) e, ⟨hs.extBut _ _ (adr_ne (.inr (by omega))) a5x, hdx2⟩, hp, ?_, ?_, inv6, by simp; omega⟩
        · rw [Array.toList_push, a8]
          exact rvs'.mono.append (.cons (a8 ▸ r6) .nil)
        · obtain ⟨oI', hoI'⟩ := wk.ex _ _ a7
          exact wk.own _ _ _ a7 ((hs.extBut _ _ (adr_ne (.inl (by omega))) hoI').trans hoI'.symm)
    · obtain rfl : i = n := by omega
      refine wpAny_sz (wk.done ad' σ' s' _ _ (let ⟨nw, p, _⟩ := n3.pre; ⟨nw, p⟩) n3.hr (hcd _ _ inv') st' fun h' tk hk hz => ?_)
      obtain ⟨c, hc⟩ := hpl'
      have hc' := hk _ _ (adr_ne (.inr (by omega))) hc
      have hr4 : HR (C.wg l) ad' σ' h' := n3.hr.same fun b o hb e => hk b o (neI b o hb) e
      have n4 := n3.touch (tk := tk) hr4 hz fun b o h1 _ e => hk b o h1 e
      have hr5 := HR.own (o := .list accV) hr4 hc' fD.1 hD' (hr.freshLow (Nat.le_refl _)) ⟨_, c, rfl, rvs'⟩
      have hlen : σ'.length = ad'.length := hr4.len.symm
      obtain ⟨nw, p, q⟩ := n3.pre
      refine hRR _ _ (ad' ++ [s2.heap.objs.size]) σ' accV _ m' (hns'.at' fun o e => hk _ o (adr_ne (.inr (by omega))) e) (show (s2.heap.objs.size : Nat) ≤ H2.objs.size by omega) ?_ ⟨n4.eq, ⟨nw ++ [s2.heap.objs.size], by rw [p, List.append_assoc], ?_⟩, n4.size, n4.same, hr5⟩ (RV.last hlen) inv'
      · intro hm
        rcases List.mem_append.mp hm with hm | hm
        · exact hC' hm
        · simp at hm; omega
      · intro a ha
        rcases List.mem_append.mp ha with ha | ha
        · exact q a ha
        · simp at ha; exact Nat.le_of_eq ha.symm
  exact codeAny_compStart_list (loop _ rfl) (wk.self 0 _ _ _ st1 (loop _ rfl))
theorem WE_ListCompC {l l2 : List (Str × Value)} {onames : List (Str × NameKind)} {sc : Scope} {x : Str} {px : Pos} {elt iter : PySem.Expr} {ifs : List PySem.Expr} {pos : Pos} {capt : Loc}
    (hkn : Kn env onames) (hok : compOkC onames sc x (capt.map (·.1)) (l2.map (·.1)) = true) (hnd : (capt.map (·.1)).Nodup) (hcap : ∀ p ∈ capt, p ∈ ρ) (hl2 : ∀ p ∈ l2, p ∈ l ∨ GloIs C p)
    (h : WItr (C.wg l) A env iter ρ σ (CompGo C A l2 sc x ifs elt capt (fun acc σ' => Q (.ref σ'.length) (σ' ++ [.list acc]))) E)
    (hkind : sc.kind = .function := by rfl) (hs : isSetE iter = false := by rfl) : WE (C.wg l) A env (.ListComp elt [⟨.Name x px, iter, ifs, 0⟩] sc pos) ρ σ Q E := by
  refine ⟨?_⟩
  intro ad s hr er
  have ok := compOkC.ok hok
  have hclos : closureFor sc env = pure (clOf env sc.names []) := by
    refine closure_of fun n hn => ?_
    obtain ⟨p, hp, rfl⟩ := List.mem_map.mp (ok.free n hn).1
    rcases er.kd p.1 p.2 (hcap p hp) with e | ⟨_, e⟩
    · rw [hkn _ _ (ok.free _ hn).2] at e; cases e
    · exact e
  rw [eval_ListComp]
  refine wpAny_comprehension_free (use := none) rfl (folded_not hs) hclos hkind ok.locs (wpAny_mono (h.run ad s hr er) (fun xv s1 h1 => wpAny_mono h1 ?_ fun _ _ e => e) fun _ _ e => e)
  rintro it s2 ⟨ad1, σ1, n, P, Cd, I, St, rfl, wk, st0, hI, hIad, n2, hsz, Inv, inv0, turn, fin⟩
  have er2 := er.next n2
  have hIfa : I ∉ fa env := fun hm => absurd (er.lt I hm) (Nat.not_lt.mpr hI)
  have hIG : C.G.get? I = none := (hr.fresh hI).1
  refine comp_coreC (C := C) (RR := fun acc Cl => compPost (model C.prog C.w) A E none (PE (C.wg l) ad s Q) acc Cl) hkn ok hkind hnd hcap hl2 n2.hr er2 wk st0 hIad hIfa hIG hsz inv0 (fun i acc σ' hi hv => turn i acc σ' (P i) hi rfl hv) (fun acc σ' hi => (fin acc σ' hi).1) ?_
  intro D Cl ad' σ' vs s' m hn hCl hClad n3 rv inv
  refine ⟨m, hn, fun h' hs' => ?_⟩
  have hClG : C.G.get? Cl = none := (n2.hr.fresh hCl).1
  have hr' : HR (C.wg l) ad' (σ' ++ [.list vs]) h' := n3.hr.same fun b o hb e => hs'.extBut b o (by
    rintro rfl
    rcases hb with e | e
    · have : C.G.get? b = some o := e
      rw [hClG] at this; cases this
    · exact hClad e) e
  have n4 := n3.touch (tk := s'.toks) hr' (Nat.le_of_eq hs'.1.symm) fun b o _ h2 e => hs'.extBut b o (adr_ne (.inl (Nat.lt_of_lt_of_le h2 hCl))) e
  exact ⟨ad', _, _, Nx.drop1 n2 hI n4, rv, (fin vs σ' inv).2⟩
end
end Mine

-- part Pl14
set_option autoImplicit false
set_option linter.unusedVariables false
namespace Mine
/- the shapes -/
noncomputable def half (w : Nat) : Nat → Nat
  | 0 => w
  | i + 1 => (half w i + 1) / 2
noncomputable def bsh (W H l : Nat) : Nat → Nat × Nat
  | 0 => (half W l / 2, half H (l + 1))
  | 1 => (half W (l + 1), half H l / 2)
  | _ => (half W l / 2, half H l / 2)
/- the trees -/
noncomputable def abv (W H L kd : Nat) : Nat → Option Nat
  | 0 => none
  | t + 1 => if 0 < min (bsh W H (L - 1 - t) kd).1 (bsh W H (L - 1 - t) kd).2 then some t else abv W H L kd t
noncomputable def szM (W H L m : Nat) : Nat := (bsh W H (L - 1 - m / 3) (m % 3)).1 * (bsh W H (L - 1 - m / 3) (m % 3)).2
noncomputable def offM (W H L : Nat) : Nat → Nat
  | 0 => half W L * half H L
  | m + 1 => offM W H L m + szM W H L m
noncomputable def addC (base aw ah d r c : Nat) : Int := (base : Int) + min ((r : Int).fdiv d) ((ah : Int) - 1) * aw + min ((c : Int).fdiv d) ((aw : Int) - 1)
noncomputable def addP (base aw ah d w h : Nat) : List Int := (List.range h).flatMap fun r => (List.range w).map fun c => addC base aw ah d r c
noncomputable def blkM (W H L m : Nat) : List Int := match abv W H L (m % 3) (m / 3) with
  | none => addP 0 (half W L) (half H L) 1 (bsh W H (L - 1 - m / 3) (m % 3)).1 (bsh W H (L - 1 - m / 3) (m % 3)).2
  | some t => addP (offM W H L (3 * t + m % 3)) (bsh W H (L - 1 - t) (m % 3)).1 (bsh W H (L - 1 - t) (m % 3)).2 2 (bsh W H (L - 1 - m / 3) (m % 3)).1 (bsh W H (L - 1 - m / 3) (m % 3)).2
noncomputable def psM (W H L m : Nat) : List Int := List.replicate (half W L * half H L) (-1) ++ (List.range m).flatMap (blkM W H L)
noncomputable def dsM (W H L m : Nat) : List Int := List.replicate (half W L * half H L) (L : Int) ++ (List.range m).flatMap fun m => List.replicate (szM W H L m) ((L - 1 - m / 3 : Nat) : Int)
theorem addP_len (base aw ah d w h : Nat) : (addP base aw ah d w h).length = w * h := by
  unfold addP
  induction h with
  | zero => rfl
  | succ h ih => rw [List.range_succ, List.flatMap_append, List.length_append, ih]; simp [Nat.mul_succ]
theorem blkM_len (W H L m : Nat) : (blkM W H L m).length = szM W H L m := by
  unfold blkM szM
  split <;> rw [addP_len]
theorem psM_succ (W H L m : Nat) : psM W H L (m + 1) = psM W H L m ++ blkM W H L m := by
  unfold psM; rw [List.range_succ, List.flatMap_append, List.append_assoc]; simp
theorem dsM_succ (W H L m : Nat) : dsM W H L (m + 1) = dsM W H L m ++ List.replicate (szM W H L m) ((L - 1 - m / 3 : Nat) : Int) := by
  unfold dsM; rw [List.range_succ, List.flatMap_append, List.append_assoc]; simp
theorem psM_len (W H L : Nat) : ∀ m, (psM W H L m).length = offM W H L m
  | 0 => by simp [psM, offM]
  | m + 1 => by rw [psM_succ, List.length_append, psM_len W H L m, blkM_len, offM]
theorem dsM_len (W H L : Nat) : ∀ m, (dsM W H L m).length = offM W H L m
  | 0 => by simp [dsM, offM]
  | m + 1 => by rw [dsM_succ, List.length_append, dsM_len W H L m, List.length_replicate, offM]
noncomputable def kids (P : List Int) (k : Nat) : List Nat := (List.range P.length).filter fun c => P.getD c 0 == (k : Int)
/-- what is asked of the trees, at one shape -/
noncomputable def treeOk (W H L : Nat) : Bool :=
  let P := psM W H L (3 * L)
  let D := dsM W H L (3 * L)
  let n := W * H
  offM W H L (3 * L) == n && (List.range n).all (fun k => decide (-1 ≤ P.getD k 0) && decide (P.getD k 0 < (k : Int)) && (decide (P.getD k 0 < 0) || decide (D.getD k 0 < D.getD (P.getD k 0).toNat 0)))
    && ((List.range n).filter fun k => decide (P.getD k 0 < 0)) == List.range (half W L * half H L) && decide (half W L * half H L ≤ n)
noncomputable def allOk : Bool := (List.range 7).all fun w => (List.range 7).all fun h => (List.range 4).all fun l => treeOk (w + 1) (h + 1) l
theorem allOk_true : allOk = true := by decide +kernel
theorem treeOk_true {W H L : Nat} (hw : 1 ≤ W) (hw2 : W ≤ 7) (hh : 1 ≤ H) (hh2 : H ≤ 7) (hl : L ≤ 3) : treeOk W H L = true := by
  have h := allOk_true
  unfold allOk at h
  have h1 := List.all_eq_true.mp h (W - 1) (List.mem_range.mpr (by omega))
  have h2 := List.all_eq_true.mp h1 (H - 1) (List.mem_range.mpr (by omega))
  have h3 := List.all_eq_true.mp h2 L (List.mem_range.mpr (by omega))
  rw [show W - 1 + 1 = W by omega, show H - 1 + 1 = H by omega] at h3
  exact h3
structure TreeOk (W H L : Nat) : Prop where
  tot : offM W H L (3 * L) = W * H
  lo : ∀ k, k < W * H → -1 ≤ (psM W H L (3 * L)).getD k 0
  up : ∀ k, k < W * H → (psM W H L (3 * L)).getD k 0 < (k : Int)
  dep : ∀ k, k < W * H → 0 ≤ (psM W H L (3 * L)).getD k 0 → (dsM W H L (3 * L)).getD k 0 < (dsM W H L (3 * L)).getD ((psM W H L (3 * L)).getD k 0).toNat 0
  roots : ((List.range (W * H)).filter fun k => decide ((psM W H L (3 * L)).getD k 0 < 0)) = List.range (half W L * half H L)
  low : half W L * half H L ≤ W * H
theorem tree_ok {W H L : Nat} (hw : 1 ≤ W) (hw2 : W ≤ 7) (hh : 1 ≤ H) (hh2 : H ≤ 7) (hl : L ≤ 3) : TreeOk W H L := by
  have h := treeOk_true hw hw2 hh hh2 hl
  unfold treeOk at h
  simp only [Bool.and_eq_true, beq_iff_eq, List.all_eq_true, decide_eq_true_eq, List.mem_range, Bool.or_eq_true] at h
  obtain ⟨⟨⟨h1, h2⟩, h3⟩, h4⟩ := h
  refine ⟨h1, fun k hk => (h2 k hk).1.1, fun k hk => (h2 k hk).1.2, fun k hk h0 => ?_, h3, h4⟩
  rcases (h2 k hk).2 with h5 | h5
  · omega
  · exact h5
/- the greatest under each -/
noncomputable def av (v : List Int) (c : Nat) : Int := if v.getD c 0 < 0 then -v.getD c 0 else v.getD c 0
noncomputable def grt (P v : List Int) : Nat → Nat → Int
  | 0, _ => 0
  | f + 1, k => (kids P k).foldl (fun o c => max (max o (av v c)) (grt P v f c)) 0
noncomputable def guStep (P v : List Int) (out : List Int) (k : Nat) : List Int :=
  if 0 ≤ P.getD k 0 then out.set (P.getD k 0).toNat (max (max (out.getD (P.getD k 0).toNat 0) (out.getD k 0)) (av v k)) else out
noncomputable def guP (P v : List Int) (n i : Nat) : List Int := (List.range i).foldl (fun out i => guStep P v out (n - 1 - i)) (List.replicate n 0)
theorem guP_succ (P v : List Int) (n i : Nat) : guP P v n (i + 1) = guStep P v (guP P v n i) (n - 1 - i) := by
  unfold guP; rw [List.range_succ, List.foldl_append]; rfl
theorem guStep_len {P v out : List Int} {k : Nat} : (guStep P v out k).length = out.length := by unfold guStep; split <;> simp
theorem guP_len (P v : List Int) (n : Nat) : ∀ i, (guP P v n i).length = n
  | 0 => by simp [guP]
  | i + 1 => by rw [guP_succ, guStep_len, guP_len P v n i]
noncomputable def mx (l : List Int) : Int := l.foldr max 0
theorem mx_nonneg : ∀ l : List Int, 0 ≤ mx l
  | [] => Int.le_refl 0
  | a :: l => Int.le_trans (mx_nonneg l) (Int.le_max_right _ _)
theorem foldl_mx (f g : Nat → Int) : ∀ (l : List Nat) (a : Int), 0 ≤ a → l.foldl (fun o c => max (max o (f c)) (g c)) a = max a (mx (l.map fun c => max (f c) (g c)))
  | [], a, h => (Int.max_eq_left h).symm
  | c :: l, a, h => by
    rw [List.foldl_cons, foldl_mx f g l _ (Int.le_trans h (Int.le_trans (Int.le_max_left _ _) (Int.le_max_left _ _)))]
    simp only [List.map_cons, mx, List.foldr_cons, Int.max_assoc]
theorem max_turn (a b c : Int) : max (max a b) c = max (max c b) a := by rw [Int.max_comm (max a b), Int.max_comm (max c b), Int.max_comm a b, Int.max_comm c b, ← Int.max_assoc, ← Int.max_assoc, Int.max_comm c b, Int.max_comm a b, Int.max_assoc, Int.max_assoc, Int.max_comm c a]
theorem grt_mx (P v : List Int) (hP : ∀ k, k < P.length → P.getD k 0 < (k : Int)) {u : Nat} (hu : u < P.length) (hfuel : ∀ m, P.length = m + 1 → ∀ c ∈ kids P u, grt P v (m + 1) c = grt P v m c) : grt P v P.length u = mx ((kids P u).map fun c => max (av v c) (grt P v P.length c)) := by
  obtain ⟨m, hm⟩ : ∃ m, P.length = m + 1 := ⟨P.length - 1, by omega⟩
  rw [hm, grt, foldl_mx _ _ _ _ (Int.le_refl 0), Int.max_eq_right (mx_nonneg _)]
  congr 1
  exact List.map_congr_left fun c hc => by rw [hfuel m hm c hc]
theorem mem_kids {P : List Int} {k c : Nat} : c ∈ kids P k ↔ c < P.length ∧ P.getD c 0 = (k : Int) := by
  simp [kids]
theorem grt_fuel (P v : List Int) (hP : ∀ k, k < P.length → P.getD k 0 < (k : Int)) : ∀ (f g k : Nat), P.length ≤ k + f → P.length ≤ k + g → grt P v f k = grt P v g k := by
  have nokid : ∀ k, P.length ≤ k → kids P k = [] := by
    intro k hk
    rw [List.eq_nil_iff_forall_not_mem]
    intro c hc
    obtain ⟨h1, h2⟩ := mem_kids.mp hc
    have := hP c h1
    omega
  intro f
  induction f with
  | zero =>
    intro g k hf hg
    cases g with
    | zero => rfl
    | succ g => rw [grt, grt, nokid k (by omega)]; rfl
  | succ f ih =>
    intro g k hf hg
    cases g with
    | zero => rw [grt, grt, nokid k (by omega)]; rfl
    | succ g =>
      rw [grt, grt]
      have : ∀ l : List Nat, (∀ c ∈ l, c ∈ kids P k) → ∀ a, l.foldl (fun o c => max (max o (av v c)) (grt P v f c)) a = l.foldl (fun o c => max (max o (av v c)) (grt P v g c)) a := by
        intro l
        induction l with
        | nil => intro _ a; rfl
        | cons c l ih2 =>
          intro hl a
          obtain ⟨h1, h2⟩ := mem_kids.mp (hl c (.head _))
          have := hP c h1
          rw [List.foldl_cons, List.foldl_cons, ih g c (by omega) (by omega)]
          exact ih2 (fun c hc => hl c (.tail _ hc)) _
      exact this _ (fun c hc => hc) 0
/-- the children from a place on -/
noncomputable def kidsFrom (P : List Int) (s k : Nat) : List Nat := (List.range' s (P.length - s)).filter fun c => P.getD c 0 == (k : Int)
theorem kidsFrom_step {P : List Int} {s k : Nat} (hs : s < P.length) : kidsFrom P s k = if P.getD s 0 = (k : Int) then s :: kidsFrom P (s + 1) k else kidsFrom P (s + 1) k := by
  unfold kidsFrom
  have e : P.length - s = (P.length - (s + 1)) + 1 := by omega
  rw [e, List.range'_succ, List.filter_cons]
  split <;> simp_all
theorem kidsFrom_up {P : List Int} {k : Nat} (hP : ∀ c, c < P.length → P.getD c 0 < (c : Int)) : ∀ s, s ≤ k + 1 → s ≤ P.length → kidsFrom P s k = kids P k := by
  intro s
  induction s with
  | zero => intro _ _; unfold kidsFrom kids; rw [List.range_eq_range']; rfl
  | succ s ih =>
    intro h1 h2
    rw [← ih (by omega) (by omega), kidsFrom_step (s := s) (by omega), if_neg]
    have := hP s (by omega)
    omega
theorem fuel_kids (P v : List Int) (hP : ∀ c, c < P.length → P.getD c 0 < (c : Int)) {u : Nat} : ∀ m, P.length = m + 1 → ∀ c ∈ kids P u, grt P v (m + 1) c = grt P v m c := by
  intro m hm c hc
  obtain ⟨h1, h2⟩ := mem_kids.mp hc
  have := hP c h1
  exact grt_fuel P v hP (m + 1) m c (by omega) (by omega)
theorem guP_spec (P v : List Int) (hP : ∀ c, c < P.length → P.getD c 0 < (c : Int)) : ∀ i, i < P.length → ∀ u, u < P.length →
    (guP P v P.length i).getD u 0 = mx ((kidsFrom P (P.length - i) u).map fun c => max (av v c) (grt P v P.length c)) := by
  intro i
  induction i with
  | zero =>
    intro hi u hu
    have : kidsFrom P (P.length - 0) u = [] := by simp [kidsFrom]
    rw [this]
    simp [guP, mx, hu]
  | succ i ih =>
    intro hi u hu
    have ihu := ih (Nat.lt_of_succ_lt hi)
    rw [guP_succ]
    have hk : P.length - 1 - i < P.length := by omega
    have e1 : P.length - (i + 1) = P.length - 1 - i := by omega
    have e2 : P.length - i = P.length - 1 - i + 1 := by omega
    rw [e1, kidsFrom_step hk]
    rw [e2] at ihu
    clear e1 e2 ih hi
    generalize P.length - 1 - i = k at *
    have hlen := guP_len P v P.length i
    unfold guStep
    have hPk := hP k hk
    generalize hg : guP P v P.length i = g at *
    by_cases h0 : 0 ≤ P.getD k 0
    · rw [if_pos h0]
      obtain ⟨w, hw⟩ : ∃ w : Nat, P.getD k 0 = (w : Int) := Int.eq_ofNat_of_zero_le h0
      have gk : g.getD k 0 = grt P v P.length k := by
        rw [ihu k hk, kidsFrom_up hP _ (Nat.le_refl _) hk, grt_mx P v hP hk (fuel_kids P v hP)]
      rw [hw, Int.toNat_natCast, gk]
      by_cases hu2 : w = u
      · subst hu2
        rw [if_pos rfl]
        have : (List.set g w (max (max (g.getD w 0) (grt P v P.length k)) (av v k))).getD w 0 = max (max (g.getD w 0) (grt P v P.length k)) (av v k) := by
          simp [List.getD, hlen, hu]
        rw [this, ihu w hu]
        simp only [List.map_cons, mx, List.foldr_cons]
        exact max_turn _ _ _
      · rw [if_neg (fun h => hu2 (Int.ofNat_inj.mp h))]
        have : (List.set g w (max (max (g.getD w 0) (grt P v P.length k)) (av v k))).getD u 0 = g.getD u 0 := by
          rw [List.getD, List.getElem?_set_ne hu2]; rfl
        rw [this, ihu u hu]
    · rw [if_neg h0, if_neg (fun h => h0 (by rw [h]; exact Int.natCast_nonneg u)), ihu u hu]
theorem gu_grt (P v : List Int) (hP : ∀ c, c < P.length → P.getD c 0 < (c : Int)) {u : Nat} (hu : u < P.length) : (guP P v P.length (P.length - 1)).getD u 0 = grt P v P.length u := by
  rw [guP_spec P v hP _ (by omega) u hu, kidsFrom_up hP _ (by omega) (by omega), ← grt_mx P v hP hu (fuel_kids P v hP)]
/- cut into rows, and laid in a row -/
noncomputable def rowsP (v : List Int) (at' w h : Nat) : List (List Int) := (List.range h).map fun r => (v.drop (at' + r * w)).take w
theorem rowsP_flat (v : List Int) (a w : Nat) : ∀ h, (rowsP v a w h).flatten = (v.drop a).take (w * h)
  | 0 => by simp [rowsP]
  | h + 1 => by
    have ih := rowsP_flat v a w h
    unfold rowsP at ih ⊢
    rw [List.range_succ, List.map_append, List.flatten_append, ih]
    simp only [List.map_cons, List.map_nil, List.flatten_cons, List.flatten_nil, List.append_nil]
    rw [Nat.mul_succ, List.take_add, List.drop_drop, Nat.mul_comm h w]
theorem rowsP_of (w : Nat) : ∀ (M : List (List Int)) (pre post : List Int), (∀ r ∈ M, r.length = w) → rowsP (pre ++ M.flatten ++ post) pre.length w M.length = M
  | [], pre, post, _ => rfl
  | r :: M, pre, post, h => by
    have hr := h r (.head _)
    have ih := rowsP_of w M (pre ++ r) post fun x hx => h x (.tail _ hx)
    have e : pre ++ r ++ M.flatten ++ post = pre ++ (r :: M).flatten ++ post := by simp
    rw [e, List.length_append, hr] at ih
    generalize hX : pre ++ (r :: M).flatten ++ post = X at *
    have h0 : List.take w (List.drop pre.length X) = r := by rw [← hX]; simp [← hr]
    unfold rowsP at ih ⊢
    rw [List.length_cons, List.range_succ_eq_map, List.map_cons, List.map_map]
    have e2 : List.map ((fun k => List.take w (List.drop (pre.length + k * w) X)) ∘ Nat.succ) (List.range M.length) = M := by
      refine Eq.trans (List.map_congr_left fun k _ => ?_) ih
      show List.take w (List.drop (pre.length + (k + 1) * w) X) = List.take w (List.drop (pre.length + w + k * w) X)
      rw [Nat.add_mul, Nat.one_mul, Nat.add_comm (k * w) w, Nat.add_assoc]
    rw [e2, Nat.zero_mul, Nat.add_zero, h0]
noncomputable def flatB (low : List (List Int)) (B : Nat → Nat → List (List Int)) (L m : Nat) : List Int := low.flatten ++ (List.range m).flatMap fun m => (B (L - 1 - m / 3) (m % 3)).flatten
theorem flatB_succ (low : List (List Int)) (B : Nat → Nat → List (List Int)) (L m : Nat) : flatB low B L (m + 1) = flatB low B L m ++ (B (L - 1 - m / 3) (m % 3)).flatten := by
  unfold flatB; rw [List.range_succ, List.flatMap_append, ← List.append_assoc]; simp
noncomputable def backB (W H L : Nat) (v : List Int) (l k : Nat) : List (List Int) := rowsP v (offM W H L (3 * (L - 1 - l) + k)) (bsh W H l k).1 (bsh W H l k).2
theorem flat_back (W H L : Nat) (v : List Int) : ∀ m, m ≤ 3 * L → flatB (rowsP v 0 (half W L) (half H L)) (backB W H L v) L m = v.take (offM W H L m)
  | 0, _ => by simp [flatB, rowsP_flat, offM]
  | m + 1, h => by
    rw [flatB_succ, flat_back W H L v m (by omega), offM, List.take_add]
    congr 1
    unfold backB
    rw [rowsP_flat]
    have e : 3 * (L - 1 - (L - 1 - m / 3)) + m % 3 = m := by omega
    rw [e]; rfl
theorem flatten_len {w : Nat} : ∀ {M : List (List Int)}, (∀ r ∈ M, r.length = w) → M.flatten.length = w * M.length
  | [], _ => rfl
  | r :: M, h => by rw [List.flatten_cons, List.length_append, flatten_len fun x hx => h x (.tail _ hx), h r (.head _), List.length_cons, Nat.mul_succ]; omega
theorem flatB_len (W H L : Nat) (low : List (List Int)) (B : Nat → Nat → List (List Int)) (hl : low.length = half H L) (hlw : ∀ r ∈ low, r.length = half W L)
    (hB : ∀ l k, l < L → k < 3 → (B l k).length = (bsh W H l k).2 ∧ ∀ r ∈ B l k, r.length = (bsh W H l k).1) : ∀ m, m ≤ 3 * L → (flatB low B L m).length = offM W H L m
  | 0, _ => by simp only [flatB, List.range_zero, List.flatMap_nil, List.append_nil, offM]; rw [flatten_len hlw, hl]
  | m + 1, h => by
    rw [flatB_succ, List.length_append, flatB_len W H L low B hl hlw hB m (by omega), offM]
    obtain ⟨h1, h2⟩ := hB (L - 1 - m / 3) (m % 3) (by omega) (by omega)
    rw [flatten_len h2, h1]; rfl
theorem back_low (W H L : Nat) (low : List (List Int)) (rest : List Int) (hl : low.length = half H L) (hlw : ∀ r ∈ low, r.length = half W L) : rowsP (low.flatten ++ rest) 0 (half W L) (half H L) = low := by
  have := rowsP_of (half W L) low [] rest hlw
  simpa [hl] using this
/- how many children -/
theorem sum_ind (x : Int) : ∀ n : Nat, ((List.range n).map fun (k : Nat) => if x = (k : Int) then (1 : Nat) else 0).sum = if 0 ≤ x ∧ x < (n : Int) then 1 else 0
  | 0 => by rw [if_neg (by omega)]; rfl
  | n + 1 => by
    rw [List.range_succ, List.map_append, List.sum_append, sum_ind x n]
    simp only [List.map_cons, List.map_nil, List.sum_cons, List.sum_nil, Nat.add_zero]
    split <;> split <;> split <;> omega
theorem sum_add' : ∀ (l : List Nat) (f g : Nat → Nat), (l.map fun k => f k + g k).sum = (l.map f).sum + (l.map g).sum
  | [], f, g => rfl
  | a :: l, f, g => by simp only [List.map_cons, List.sum_cons, sum_add' l f g]; omega
theorem sum_kids (P : List Int) (n : Nat) : ∀ l : List Nat, ((List.range n).map fun (k : Nat) => (l.filter fun c => P.getD c 0 == (k : Int)).length).sum = (l.filter fun c => decide (0 ≤ P.getD c 0) && decide (P.getD c 0 < (n : Int))).length
  | [] => by
    have : ∀ l : List Nat, (l.map fun (k : Nat) => (([] : List Nat).filter fun c => P.getD c 0 == (k : Int)).length).sum = 0 := by
      intro l
      induction l with
      | nil => rfl
      | cons a l ih => rw [List.map_cons, List.sum_cons, ih]; rfl
    exact this _
  | c :: l => by
    have e : ∀ k : Nat, ((c :: l).filter fun c => P.getD c 0 == (k : Int)).length = (if P.getD c 0 = (k : Int) then 1 else 0) + (l.filter fun c => P.getD c 0 == (k : Int)).length := by
      intro k
      rw [List.filter_cons]
      by_cases h : P.getD c 0 = (k : Int)
      · rw [if_pos h, if_pos (by rw [h]; exact beq_self_eq_true _), List.length_cons]; omega
      · rw [if_neg h, if_neg (by simpa using h)]; omega
    have e1 : ((List.range n).map fun (k : Nat) => ((c :: l).filter fun c => P.getD c 0 == (k : Int)).length) = ((List.range n).map fun (k : Nat) => (if P.getD c 0 = (k : Int) then 1 else 0) + (l.filter fun c => P.getD c 0 == (k : Int)).length) := List.map_congr_left fun k _ => e k
    rw [e1, sum_add' _ (fun (k : Nat) => if P.getD c 0 = (k : Int) then 1 else 0), sum_ind, sum_kids P n l, List.filter_cons]
    by_cases h : 0 ≤ P.getD c 0 ∧ P.getD c 0 < (n : Int)
    · rw [if_pos h, if_pos (by simpa using h), List.length_cons]; omega
    · rw [if_neg h, if_neg (by simpa using h)]; omega
theorem filter_not_len {p : Nat → Bool} : ∀ l : List Nat, (l.filter p).length + (l.filter fun c => !p c).length = l.length
  | [] => rfl
  | c :: l => by have := filter_not_len (p := p) l; simp only [List.filter_cons]; cases h : p c <;> simp <;> omega
theorem kids_total {W H L : Nat} (t : TreeOk W H L) : ((List.range (W * H)).map fun k => (kids (psM W H L (3 * L)) k).length).sum = W * H - half W L * half H L := by
  have hl : (psM W H L (3 * L)).length = W * H := by rw [psM_len, t.tot]
  have e := sum_kids (psM W H L (3 * L)) (W * H) (List.range (psM W H L (3 * L)).length)
  have e2 : (List.range (psM W H L (3 * L)).length).filter (fun c => decide (0 ≤ (psM W H L (3 * L)).getD c 0) && decide ((psM W H L (3 * L)).getD c 0 < ((W * H : Nat) : Int))) = (List.range (W * H)).filter fun c => !decide ((psM W H L (3 * L)).getD c 0 < 0) := by
    rw [hl]
    apply List.filter_congr
    intro c hc
    have hc := List.mem_range.mp hc
    have := t.up c hc
    rw [Bool.eq_iff_iff]
    simp only [Bool.and_eq_true, decide_eq_true_eq, Bool.not_eq_true', decide_eq_false_iff_not]
    omega
  rw [e2] at e
  have e3 := filter_not_len (p := fun c => decide ((psM W H L (3 * L)).getD c 0 < 0)) (List.range (W * H))
  rw [t.roots, List.length_range, List.length_range] at e3
  unfold kids
  rw [e]
  omega
end Mine

-- part Aw32
set_option autoImplicit false
set_option linter.unusedVariables false
namespace Mine
open PySem PySem.W PyProof.Rows

theorem tget_append (es : TD) (ks : List Atom) (j : Nat) (v : V) (k : List Atom) (h : tget es ks = none) : tget (es ++ [(ks, j, v)]) k = if k = ks then some v else tget es k := by
  induction es with
  | nil =>
    by_cases hk : ks = k
    · subst hk; simp [tget]
    · have : ¬ k = ks := fun e => hk e.symm
      simp [tget, hk, this]
  | cons e es ih =>
    by_cases h1 : e.1 = ks
    · simp [tget, h1] at h
    · have h' : tget es ks = none := by simpa [tget, h1] using h
      by_cases h2 : e.1 = k
      · have : ¬ k = ks := fun e' => h1 (h2.trans e')
        simp [tget, h2, this]
      · have := ih h'
        simpa [tget, h2] using this
theorem tget_map (es : TD) (ks : List Atom) (v : V) (k : List Atom) (h : (tget es ks).isSome = true) : tget (es.map fun e => if e.1 = ks then (e.1, e.2.1, v) else e) k = if k = ks then some v else tget es k := by
  induction es with
  | nil => simp [tget] at h
  | cons e es ih =>
    by_cases h1 : e.1 = ks
    · by_cases h2 : k = ks
      · subst h2; simp [tget, h1]
      · have h3 : ¬ ks = k := fun e' => h2 e'.symm
        have h4 : ∀ es : TD, tget (es.map fun e => if e.1 = ks then (e.1, e.2.1, v) else e) k = tget es k := by
          intro es
          induction es with
          | nil => rfl
          | cons e es ih =>
            by_cases h5 : e.1 = ks
            · simpa [tget, h5, h3] using ih
            · by_cases h6 : e.1 = k
              · have h7 : ¬ k = ks := h2
                simp [tget, h6, h7]
              · simpa [tget, h5, h6] using ih
        rw [if_neg h2, h4]
    · have h' : (tget es ks).isSome = true := by simpa [tget, h1] using h
      by_cases h2 : e.1 = k
      · have : ¬ k = ks := fun e' => h1 (h2.trans e')
        simp [tget, h2, this]
      · have := ih h'
        simpa [tget, h1, h2] using this
theorem tget_tput (es : TD) (ks : List Atom) (j : Nat) (v : V) (k : List Atom) : tget (tput es ks j v) k = if k = ks then some v else tget es k := by
  unfold tput
  by_cases h : (tget es ks).isSome = true
  · rw [if_pos h]; exact tget_map es ks v k h
  · rw [if_neg h]; exact tget_append es ks j v k (by simpa using h)
theorem tget_none {es : TD} {ks : List Atom} (h : tget es ks = none) : ks ∉ es.map (·.1) := by
  intro hm
  obtain ⟨e, he, rfl⟩ := List.mem_map.mp hm
  have : (es.find? fun x => decide (x.1 = e.1)) = none := by simpa [tget] using h
  have := List.find?_eq_none.mp this e he
  simp at this
theorem tput_nodup {es : TD} {ks : List Atom} {j : Nat} {v : V} (nd : (es.map (·.1)).Nodup) : ((tput es ks j v).map (·.1)).Nodup := by
  unfold tput
  split
  · have : (es.map fun e => if e.1 = ks then (e.1, e.2.1, v) else e).map (·.1) = es.map (·.1) := by
      rw [List.map_map]
      apply List.map_congr_left
      intro e _
      show (if e.1 = ks then (e.1, e.2.1, v) else e).1 = e.1
      split <;> rfl
    rw [this]; exact nd
  · rename_i h
    rw [List.map_append]
    refine List.nodup_append.mpr ⟨nd, by simp, ?_⟩
    intro a ha b hb e
    simp at hb
    subst hb; subst e
    exact tget_none (by simpa using h) ha
theorem tput_len {es : TD} {ks : List Atom} {j : Nat} {v : V} : (tput es ks j v).length ≤ es.length + 1 := by
  unfold tput; split <;> simp
theorem Keyed.put {σ : AH} {es : TD} {ks : List Atom} {j : Nat} {v : V} (h : Keyed σ es) (b : σ[j]? = some (.tuple (ks.map atomV))) : Keyed σ (tput es ks j v) := by
  unfold tput
  split
  · intro e he
    obtain ⟨e', he', rfl⟩ := List.mem_map.mp he
    have := h e' he'
    by_cases h1 : e'.1 = ks
    · rw [if_pos h1]; exact this
    · rw [if_neg h1]; exact this
  · intro e he
    rcases List.mem_append.mp he with he | he
    · exact h e he
    · rw [List.mem_singleton.mp he]; exact b
section
variable {C : Cx} {A : Around} {env : Env} {ρ : Loc} {σ : AH} {E : EX} {Q : V → AH → Prop}
theorem rngDown (a b : Int) : (Builtin.Range.rangeSize a b (-1)).toNat = (a - b).toNat := by
  unfold Builtin.Range.rangeSize
  rw [if_neg (by decide)]
  simp only [Int.neg_neg, Int.ediv_one]
  split <;> omega
theorem WItr_down {C : Cx} {l : List (Str × Value)} {id : Str} {p pos : Pos} {args : List PySem.Expr} {K : Nat → (Nat → V) → (AH → Prop) → AH → Prop} (hA : A.handled = none) (hf : (id, Value.type "range") ∈ l)
    (h : WL (C.wg l) A env args ρ σ (fun vs σ1 => ∃ a b : Int, vs = [.int a, .int b, .int (-1)] ∧ (-(2 ^ 60) ≤ a ∧ a ≤ 2 ^ 60) ∧ (-(2 ^ 60) ≤ b ∧ b ≤ 2 ^ 60) ∧ K (a - b).toNat (fun i => .int (a - (i : Nat))) (fun _ => True) σ1) E)
    (hns : noStar args = true := by rfl) : WItr (C.wg l) A env (.Call (.Name id p) args [] pos) ρ σ K E := by
  refine WItr_range hA hf (h.conseq ?_) hns
  rintro vs σ1 ⟨a, b, rfl, ha, hb, hk⟩
  refine ⟨a, b, -1, rfl, by decide, ha, hb, by decide, ?_⟩
  rw [rngDown]
  have e : (fun i : Nat => V.int (a + (i : Int) * -1)) = fun i : Nat => V.int (a - i) := by funext i; congr 1; omega
  rw [e]; exact hk
theorem exDown {a b : Int} {P : Int → Int → Prop} (h : P a b) : ∃ a' b' : Int, [V.int a, V.int b, V.int (-1)] = [V.int a', V.int b', V.int (-1)] ∧ P a' b' := ⟨a, b, rfl, h⟩
theorem ite_WE {b : Bool} {e1 e2 : PySem.Expr} {x : V} (h1 : b = true → WE C A env e1 ρ σ (fun v σ1 => v = x ∧ σ1 = σ) E) (h2 : b = false → WE C A env e2 ρ σ (fun v σ1 => v = x ∧ σ1 = σ) E) (h : Q x σ) : if b = true then WE C A env e1 ρ σ Q E else WE C A env e2 ρ σ Q E := by
  cases b with
  | true => rw [if_pos rfl]; exact (h1 rfl).conseq fun v σ1 ⟨a, b⟩ => by subst a; subst b; exact h
  | false => rw [if_neg (by decide)]; exact (h2 rfl).conseq fun v σ1 ⟨a, b⟩ => by subst a; subst b; exact h
end
end Mine

-- part Aw33
set_option autoImplicit false
set_option linter.unusedVariables false
namespace Mine
open PySem PySem.W PyProof.Rows

/-- room for n more calls -/
structure Room (A : Around) (n : Nat) : Prop where
  han : A.handled = none
  dep : A.depth + n < recursionLimit
  uni : A.units + (4 * n + 100) < cLine
theorem Room.deep {A : Around} {n : Nat} {env : Env} (r : Room A (n + 1)) : Room (A.deeper env) n := by
  refine ⟨r.han, ?_, ?_⟩
  · have := r.dep
    show A.depth + 1 + n < _; omega
  · have := r.uni
    show A.units + 3 + _ < _; omega
theorem Room.make {A : Around} {n : Nat} {Cl : Addr} {us : List Value} (r : Room A (n + 1)) : Room (A.under (.builtin "type.__call__" ⟨.ref Cl :: us, []⟩)) n := by
  have cu : (Code.builtin "type.__call__" ⟨Value.ref Cl :: us, []⟩).cUnits ≤ 4 := Nat.le_of_ble_eq_true rfl
  refine ⟨r.han, ?_, ?_⟩
  · have := r.dep
    show A.depth + 1 + n < _; omega
  · have := r.uni
    show A.units + Code.cUnits _ + _ < _; omega
theorem Room.le {A : Around} {n m : Nat} (r : Room A n) (h : m ≤ n := by exact Nat.le_of_ble_eq_true rfl) : Room A m := by
  refine ⟨r.han, ?_, ?_⟩
  · have := r.dep; omega
  · have := r.uni; omega
theorem Room.dep0 {A : Around} {n : Nat} (r : Room A n) : A.depth < recursionLimit := Nat.lt_of_le_of_lt (Nat.le_add_right _ _) r.dep
theorem Room.u {A : Around} {n k : Nat} (r : Room A n) (h : k ≤ 100 := by exact Nat.le_of_ble_eq_true rfl) : A.units + k < cLine := by have := r.uni; omega
theorem clampN (a n : Nat) : (let i := if (a : Int) < 0 then (a : Int) + n else a; if (1 : Int) > 0 then max 0 (min i n) else max (-1) (min i ((n : Int) - 1))) = ((min a n : Nat) : Int) := by
  dsimp only
  rw [if_neg (Int.not_lt.mpr (Int.natCast_nonneg a)), if_pos (by decide)]; omega
theorem pickV_mid2 {α : Type} (xs : List α) {a b : Nat} (hab : a ≤ b) : pickV xs (some (a : Int)) (some (b : Int)) none = (xs.drop a).take (b - a) := by
  have e : sliceBounds (some (a : Int)) (some (b : Int)) none xs.length = (((min a xs.length : Nat) : Int), ((min b xs.length : Nat) : Int), 1) := by
    exact Prod.ext (clampN a _) (Prod.ext (clampN b _) rfl)
  unfold pickV
  rw [e]
  dsimp only
  rw [sliceRange_nat _ _ (by omega), fm_range _ _ _ (by omega)]
  rcases Nat.le_total a xs.length with h | h
  · rw [Nat.min_eq_left h]
    rcases Nat.le_total b xs.length with h2 | h2
    · rw [Nat.min_eq_left h2]
    · rw [Nat.min_eq_right h2, List.take_of_length_le (by rw [List.length_drop]; exact Nat.le_refl _), List.take_of_length_le (by rw [List.length_drop]; omega)]
  · rw [Nat.min_eq_right h, List.drop_eq_nil_of_le (Nat.le_refl _), List.drop_eq_nil_of_le h]; simp
/- small numbers -/
theorem sz_le {n m : Nat} (h : n ≤ m) (hm : m ≤ 100000) : n ≤ sizeLine := by have : sizeLine = 16777216 := rfl; omega
theorem sz_lt {n m : Nat} (h : n < m) (hm : m ≤ 100000) : n ≤ sizeLine := sz_le (Nat.le_of_lt h) hm
section
variable {C : Cx} {A : Around} {env : Env} {ρ : Loc} {σ : AH} {E : EX} {Q : V → AH → Prop}
theorem WC_lenE {v : V} {xs : List V} {n : Nat} (b : ObjAt C σ v (.list xs)) (e : xs.length = n) (hz : n ≤ 100000) (h : Q (.int (n : Nat)) σ) : WC C A (.builtin "len") [v] σ Q E := by
  subst e; exact WC_len b (by omega) h
theorem WC_lenI {v : V} {xs : List Int} {n : Nat} (b : ObjAt C σ v (.list (xs.map .int))) (e : xs.length = n) (hz : n ≤ 100000) (h : Q (.int (n : Nat)) σ) : WC C A (.builtin "len") [v] σ Q E := WC_lenE b (by rw [List.length_map]; exact e) hz h
theorem item_listN {value slice : PySem.Expr} {v : V} {xs : List V} {k : Nat} {x : V} (b : ObjAt C σ v (.list xs)) (hz : xs.length ≤ 100000) (hx : xs[k]? = some x) (h : Q x σ) (hs : isSliceE slice = false := by rfl) : WSub C A value slice v (.int (k : Nat)) σ Q E :=
  item_list b (Int.natCast_nonneg k) (by have := (List.getElem?_eq_some_iff.mp hx).1; omega) (by rw [Int.toNat_natCast]; exact hx) h hs
theorem item_listE {value slice : PySem.Expr} {v : V} {xs : List V} {k : Int} {u : Nat} {x : V} (b : ObjAt C σ v (.list xs)) (e : k = (u : Int)) (hz : xs.length ≤ 100000) (hx : xs[u]? = some x) (h : Q x σ) (hs : isSliceE slice = false := by rfl) : WSub C A value slice v (.int k) σ Q E := by
  subst e; exact item_listN b hz hx h hs
theorem item_intN {value slice : PySem.Expr} {v : V} {P : List Int} {k : Nat} (b : ObjAt C σ v (.list (P.map .int))) (hz : P.length ≤ 100000) (hk : k < P.length) (h : Q (.int (P.getD k 0)) σ) (hs : isSliceE slice = false := by rfl) : WSub C A value slice v (.int (k : Nat)) σ Q E :=
  item_listN b (by rw [List.length_map]; exact hz) (by simp [List.getD, hk]) h hs
theorem item_intE {value slice : PySem.Expr} {v : V} {P : List Int} {k : Int} {u : Nat} (b : ObjAt C σ v (.list (P.map .int))) (e : k = (u : Int)) (hz : P.length ≤ 100000) (hk : u < P.length) (h : Q (.int (P.getD u 0)) σ) (hs : isSliceE slice = false := by rfl) : WSub C A value slice v (.int k) σ Q E := by
  subst e; exact item_intN b hz hk h hs
theorem item_tupN {value slice : PySem.Expr} {v : V} {xs : List V} {k : Nat} {x : V} (b : ObjAt C σ v (.tuple xs)) (hz : xs.length ≤ 100000) (hx : xs[k]? = some x) (h : Q x σ) (hs : isSliceE slice = false := by rfl) : WSub C A value slice v (.int (k : Nat)) σ Q E :=
  item_tuple b (Int.natCast_nonneg k) (by have := (List.getElem?_eq_some_iff.mp hx).1; omega) (by rw [Int.toNat_natCast]; exact hx) h hs
theorem WC_appE {j : Nat} {xs : List V} {x : V} {n : Nat} (b : σ[j]? = some (.list xs)) (hz : xs.length ≤ n) (hn : n ≤ 100000) (h : Q .none (σ.set j (.list (xs ++ [x])))) : WC C A (.builtin "list.append") [.ref j, x] σ Q E := WC_append b (sz_le hz hn) h
theorem seti_intN {j : Nat} {P : List Int} {k : Nat} {x : Int} {Q : AH → Prop} (b : σ[j]? = some (.list (P.map .int))) (hz : P.length ≤ 100000) (hk : k < P.length) (h : Q (σ.set j (.list ((P.set k x).map .int)))) : WSi C A (.ref j) (.int (k : Nat)) (.int x) σ Q E := by
  refine seti_list b (Int.natCast_nonneg k) (by omega) (by rw [List.length_map]; omega) ?_
  rw [Int.toNat_natCast, ← List.map_set]; exact h
theorem seti_intE {j : Nat} {P : List Int} {k : Int} {u : Nat} {x : Int} {Q : AH → Prop} (b : σ[j]? = some (.list (P.map .int))) (e : k = (u : Int)) (hz : P.length ≤ 100000) (hk : u < P.length) (h : Q (σ.set j (.list ((P.set u x).map .int)))) : WSi C A (.ref j) (.int k) (.int x) σ Q E := by
  subst e; exact seti_intN b hz hk h
theorem mul_nn {a b : Nat} (ha : a ≤ 100000) (h : Q (.int (a * b : Nat)) σ) : WOp2 C A (binaryOp .Mult) (.int (a : Nat)) (.int (b : Nat)) σ Q E := mul_ii (mul_small (by omega) (by omega)) (by rw [show (a : Int) * (b : Int) = ((a * b : Nat) : Int) by simp]; exact h)
theorem half_n {n : Nat} (h : Q (.int (n / 2 : Nat)) σ) : WOp2 C A (binaryOp .FloorDiv) (.int (n : Nat)) (.int 2) σ Q E := fdiv_ii (by decide) (by rw [show ((n : Int)).fdiv 2 = ((n / 2 : Nat) : Int) by rw [Int.fdiv_eq_ediv_of_nonneg _ (by decide)]; omega]; exact h)
theorem half_n1 {n : Nat} (h : Q (.int ((n + 1) / 2 : Nat)) σ) : WOp2 C A (binaryOp .FloorDiv) (.int ((n : Nat) + 1)) (.int 2) σ Q E := fdiv_ii (by decide) (by rw [show ((n : Int) + 1).fdiv 2 = (((n + 1) / 2 : Nat) : Int) by rw [Int.fdiv_eq_ediv_of_nonneg _ (by decide)]; omega]; exact h)
theorem exRng {n : Nat} {P : Nat → Prop} (hz : n ≤ 100000) (h : P n) : ∃ m : Nat, [V.int n] = [V.int m] ∧ m ≤ 2 ^ 60 ∧ P m := ⟨n, rfl, Nat.le_trans hz (Nat.le_of_ble_eq_true rfl), h⟩
end
theorem mem0 {α : Type} {p : α} {r : List α} : p ∈ p :: r := List.mem_cons_self
theorem mem1 {α : Type} {p : α} {a0 : α} {r : List α} : p ∈ a0 :: p :: r := List.mem_cons_of_mem _ mem0
theorem mem2 {α : Type} {p : α} {a0 a1 : α} {r : List α} : p ∈ a0 :: a1 :: p :: r := List.mem_cons_of_mem _ mem1
theorem mem3 {α : Type} {p : α} {a0 a1 a2 : α} {r : List α} : p ∈ a0 :: a1 :: a2 :: p :: r := List.mem_cons_of_mem _ mem2
theorem mem4 {α : Type} {p : α} {a0 a1 a2 a3 : α} {r : List α} : p ∈ a0 :: a1 :: a2 :: a3 :: p :: r := List.mem_cons_of_mem _ mem3
theorem mem5 {α : Type} {p : α} {a0 a1 a2 a3 a4 : α} {r : List α} : p ∈ a0 :: a1 :: a2 :: a3 :: a4 :: p :: r := List.mem_cons_of_mem _ mem4
theorem mem6 {α : Type} {p : α} {a0 a1 a2 a3 a4 a5 : α} {r : List α} : p ∈ a0 :: a1 :: a2 :: a3 :: a4 :: a5 :: p :: r := List.mem_cons_of_mem _ mem5
theorem mem7 {α : Type} {p : α} {a0 a1 a2 a3 a4 a5 a6 : α} {r : List α} : p ∈ a0 :: a1 :: a2 :: a3 :: a4 :: a5 :: a6 :: p :: r := List.mem_cons_of_mem _ mem6
theorem mem8 {α : Type} {p : α} {a0 a1 a2 a3 a4 a5 a6 a7 : α} {r : List α} : p ∈ a0 :: a1 :: a2 :: a3 :: a4 :: a5 :: a6 :: a7 :: p :: r := List.mem_cons_of_mem _ mem7
theorem mem9 {α : Type} {p : α} {a0 a1 a2 a3 a4 a5 a6 a7 a8 : α} {r : List α} : p ∈ a0 :: a1 :: a2 :: a3 :: a4 :: a5 :: a6 :: a7 :: a8 :: p :: r := List.mem_cons_of_mem _ mem8
theorem mem10 {α : Type} {p : α} {a0 a1 a2 a3 a4 a5 a6 a7 a8 a9 : α} {r : List α} : p ∈ a0 :: a1 :: a2 :: a3 :: a4 :: a5 :: a6 :: a7 :: a8 :: a9 :: p :: r := List.mem_cons_of_mem _ mem9
theorem mem11 {α : Type} {p : α} {a0 a1 a2 a3 a4 a5 a6 a7 a8 a9 a10 : α} {r : List α} : p ∈ a0 :: a1 :: a2 :: a3 :: a4 :: a5 :: a6 :: a7 :: a8 :: a9 :: a10 :: p :: r := List.mem_cons_of_mem _ mem10
theorem mem12 {α : Type} {p : α} {a0 a1 a2 a3 a4 a5 a6 a7 a8 a9 a10 a11 : α} {r : List α} : p ∈ a0 :: a1 :: a2 :: a3 :: a4 :: a5 :: a6 :: a7 :: a8 :: a9 :: a10 :: a11 :: p :: r := List.mem_cons_of_mem _ mem11
theorem mem13 {α : Type} {p : α} {a0 a1 a2 a3 a4 a5 a6 a7 a8 a9 a10 a11 a12 : α} {r : List α} : p ∈ a0 :: a1 :: a2 :: a3 :: a4 :: a5 :: a6 :: a7 :: a8 :: a9 :: a10 :: a11 :: a12 :: p :: r := List.mem_cons_of_mem _ mem12
theorem mem14 {α : Type} {p : α} {a0 a1 a2 a3 a4 a5 a6 a7 a8 a9 a10 a11 a12 a13 : α} {r : List α} : p ∈ a0 :: a1 :: a2 :: a3 :: a4 :: a5 :: a6 :: a7 :: a8 :: a9 :: a10 :: a11 :: a12 :: a13 :: p :: r := List.mem_cons_of_mem _ mem13
theorem mem15 {α : Type} {p : α} {a0 a1 a2 a3 a4 a5 a6 a7 a8 a9 a10 a11 a12 a13 a14 : α} {r : List α} : p ∈ a0 :: a1 :: a2 :: a3 :: a4 :: a5 :: a6 :: a7 :: a8 :: a9 :: a10 :: a11 :: a12 :: a13 :: a14 :: p :: r := List.mem_cons_of_mem _ mem14
theorem mem16 {α : Type} {p : α} {a0 a1 a2 a3 a4 a5 a6 a7 a8 a9 a10 a11 a12 a13 a14 a15 : α} {r : List α} : p ∈ a0 :: a1 :: a2 :: a3 :: a4 :: a5 :: a6 :: a7 :: a8 :: a9 :: a10 :: a11 :: a12 :: a13 :: a14 :: a15 :: p :: r := List.mem_cons_of_mem _ mem15
theorem mem17 {α : Type} {p : α} {a0 a1 a2 a3 a4 a5 a6 a7 a8 a9 a10 a11 a12 a13 a14 a15 a16 : α} {r : List α} : p ∈ a0 :: a1 :: a2 :: a3 :: a4 :: a5 :: a6 :: a7 :: a8 :: a9 :: a10 :: a11 :: a12 :: a13 :: a14 :: a15 :: a16 :: p :: r := List.mem_cons_of_mem _ mem16
theorem mem18 {α : Type} {p : α} {a0 a1 a2 a3 a4 a5 a6 a7 a8 a9 a10 a11 a12 a13 a14 a15 a16 a17 : α} {r : List α} : p ∈ a0 :: a1 :: a2 :: a3 :: a4 :: a5 :: a6 :: a7 :: a8 :: a9 :: a10 :: a11 :: a12 :: a13 :: a14 :: a15 :: a16 :: a17 :: p :: r := List.mem_cons_of_mem _ mem17
theorem mem19 {α : Type} {p : α} {a0 a1 a2 a3 a4 a5 a6 a7 a8 a9 a10 a11 a12 a13 a14 a15 a16 a17 a18 : α} {r : List α} : p ∈ a0 :: a1 :: a2 :: a3 :: a4 :: a5 :: a6 :: a7 :: a8 :: a9 :: a10 :: a11 :: a12 :: a13 :: a14 :: a15 :: a16 :: a17 :: a18 :: p :: r := List.mem_cons_of_mem _ mem18
theorem mem20 {α : Type} {p : α} {a0 a1 a2 a3 a4 a5 a6 a7 a8 a9 a10 a11 a12 a13 a14 a15 a16 a17 a18 a19 : α} {r : List α} : p ∈ a0 :: a1 :: a2 :: a3 :: a4 :: a5 :: a6 :: a7 :: a8 :: a9 :: a10 :: a11 :: a12 :: a13 :: a14 :: a15 :: a16 :: a17 :: a18 :: a19 :: p :: r := List.mem_cons_of_mem _ mem19
theorem up0 {x : Str} {v w : Option V} {r : Loc} : Up x v ((x, w) :: r) ((x, v) :: r) := .head
theorem up1 {x : Str} {v w : Option V} {a0 : Str × Option V} {r : Loc} : Up x v (a0 :: (x, w) :: r) (a0 :: (x, v) :: r) := .tail up0
theorem up2 {x : Str} {v w : Option V} {a0 a1 : Str × Option V} {r : Loc} : Up x v (a0 :: a1 :: (x, w) :: r) (a0 :: a1 :: (x, v) :: r) := .tail up1
theorem up3 {x : Str} {v w : Option V} {a0 a1 a2 : Str × Option V} {r : Loc} : Up x v (a0 :: a1 :: a2 :: (x, w) :: r) (a0 :: a1 :: a2 :: (x, v) :: r) := .tail up2
theorem up4 {x : Str} {v w : Option V} {a0 a1 a2 a3 : Str × Option V} {r : Loc} : Up x v (a0 :: a1 :: a2 :: a3 :: (x, w) :: r) (a0 :: a1 :: a2 :: a3 :: (x, v) :: r) := .tail up3
theorem up5 {x : Str} {v w : Option V} {a0 a1 a2 a3 a4 : Str × Option V} {r : Loc} : Up x v (a0 :: a1 :: a2 :: a3 :: a4 :: (x, w) :: r) (a0 :: a1 :: a2 :: a3 :: a4 :: (x, v) :: r) := .tail up4
theorem up6 {x : Str} {v w : Option V} {a0 a1 a2 a3 a4 a5 : Str × Option V} {r : Loc} : Up x v (a0 :: a1 :: a2 :: a3 :: a4 :: a5 :: (x, w) :: r) (a0 :: a1 :: a2 :: a3 :: a4 :: a5 :: (x, v) :: r) := .tail up5
theorem up7 {x : Str} {v w : Option V} {a0 a1 a2 a3 a4 a5 a6 : Str × Option V} {r : Loc} : Up x v (a0 :: a1 :: a2 :: a3 :: a4 :: a5 :: a6 :: (x, w) :: r) (a0 :: a1 :: a2 :: a3 :: a4 :: a5 :: a6 :: (x, v) :: r) := .tail up6
theorem up8 {x : Str} {v w : Option V} {a0 a1 a2 a3 a4 a5 a6 a7 : Str × Option V} {r : Loc} : Up x v (a0 :: a1 :: a2 :: a3 :: a4 :: a5 :: a6 :: a7 :: (x, w) :: r) (a0 :: a1 :: a2 :: a3 :: a4 :: a5 :: a6 :: a7 :: (x, v) :: r) := .tail up7
theorem up9 {x : Str} {v w : Option V} {a0 a1 a2 a3 a4 a5 a6 a7 a8 : Str × Option V} {r : Loc} : Up x v (a0 :: a1 :: a2 :: a3 :: a4 :: a5 :: a6 :: a7 :: a8 :: (x, w) :: r) (a0 :: a1 :: a2 :: a3 :: a4 :: a5 :: a6 :: a7 :: a8 :: (x, v) :: r) := .tail up8
theorem up10 {x : Str} {v w : Option V} {a0 a1 a2 a3 a4 a5 a6 a7 a8 a9 : Str × Option V} {r : Loc} : Up x v (a0 :: a1 :: a2 :: a3 :: a4 :: a5 :: a6 :: a7 :: a8 :: a9 :: (x, w) :: r) (a0 :: a1 :: a2 :: a3 :: a4 :: a5 :: a6 :: a7 :: a8 :: a9 :: (x, v) :: r) := .tail up9
theorem up11 {x : Str} {v w : Option V} {a0 a1 a2 a3 a4 a5 a6 a7 a8 a9 a10 : Str × Option V} {r : Loc} : Up x v (a0 :: a1 :: a2 :: a3 :: a4 :: a5 :: a6 :: a7 :: a8 :: a9 :: a10 :: (x, w) :: r) (a0 :: a1 :: a2 :: a3 :: a4 :: a5 :: a6 :: a7 :: a8 :: a9 :: a10 :: (x, v) :: r) := .tail up10
theorem up12 {x : Str} {v w : Option V} {a0 a1 a2 a3 a4 a5 a6 a7 a8 a9 a10 a11 : Str × Option V} {r : Loc} : Up x v (a0 :: a1 :: a2 :: a3 :: a4 :: a5 :: a6 :: a7 :: a8 :: a9 :: a10 :: a11 :: (x, w) :: r) (a0 :: a1 :: a2 :: a3 :: a4 :: a5 :: a6 :: a7 :: a8 :: a9 :: a10 :: a11 :: (x, v) :: r) := .tail up11
theorem up13 {x : Str} {v w : Option V} {a0 a1 a2 a3 a4 a5 a6 a7 a8 a9 a10 a11 a12 : Str × Option V} {r : Loc} : Up x v (a0 :: a1 :: a2 :: a3 :: a4 :: a5 :: a6 :: a7 :: a8 :: a9 :: a10 :: a11 :: a12 :: (x, w) :: r) (a0 :: a1 :: a2 :: a3 :: a4 :: a5 :: a6 :: a7 :: a8 :: a9 :: a10 :: a11 :: a12 :: (x, v) :: r) := .tail up12
theorem up14 {x : Str} {v w : Option V} {a0 a1 a2 a3 a4 a5 a6 a7 a8 a9 a10 a11 a12 a13 : Str × Option V} {r : Loc} : Up x v (a0 :: a1 :: a2 :: a3 :: a4 :: a5 :: a6 :: a7 :: a8 :: a9 :: a10 :: a11 :: a12 :: a13 :: (x, w) :: r) (a0 :: a1 :: a2 :: a3 :: a4 :: a5 :: a6 :: a7 :: a8 :: a9 :: a10 :: a11 :: a12 :: a13 :: (x, v) :: r) := .tail up13
theorem up15 {x : Str} {v w : Option V} {a0 a1 a2 a3 a4 a5 a6 a7 a8 a9 a10 a11 a12 a13 a14 : Str × Option V} {r : Loc} : Up x v (a0 :: a1 :: a2 :: a3 :: a4 :: a5 :: a6 :: a7 :: a8 :: a9 :: a10 :: a11 :: a12 :: a13 :: a14 :: (x, w) :: r) (a0 :: a1 :: a2 :: a3 :: a4 :: a5 :: a6 :: a7 :: a8 :: a9 :: a10 :: a11 :: a12 :: a13 :: a14 :: (x, v) :: r) := .tail up14
theorem up16 {x : Str} {v w : Option V} {a0 a1 a2 a3 a4 a5 a6 a7 a8 a9 a10 a11 a12 a13 a14 a15 : Str × Option V} {r : Loc} : Up x v (a0 :: a1 :: a2 :: a3 :: a4 :: a5 :: a6 :: a7 :: a8 :: a9 :: a10 :: a11 :: a12 :: a13 :: a14 :: a15 :: (x, w) :: r) (a0 :: a1 :: a2 :: a3 :: a4 :: a5 :: a6 :: a7 :: a8 :: a9 :: a10 :: a11 :: a12 :: a13 :: a14 :: a15 :: (x, v) :: r) := .tail up15
theorem up17 {x : Str} {v w : Option V} {a0 a1 a2 a3 a4 a5 a6 a7 a8 a9 a10 a11 a12 a13 a14 a15 a16 : Str × Option V} {r : Loc} : Up x v (a0 :: a1 :: a2 :: a3 :: a4 :: a5 :: a6 :: a7 :: a8 :: a9 :: a10 :: a11 :: a12 :: a13 :: a14 :: a15 :: a16 :: (x, w) :: r) (a0 :: a1 :: a2 :: a3 :: a4 :: a5 :: a6 :: a7 :: a8 :: a9 :: a10 :: a11 :: a12 :: a13 :: a14 :: a15 :: a16 :: (x, v) :: r) := .tail up16
theorem up18 {x : Str} {v w : Option V} {a0 a1 a2 a3 a4 a5 a6 a7 a8 a9 a10 a11 a12 a13 a14 a15 a16 a17 : Str × Option V} {r : Loc} : Up x v (a0 :: a1 :: a2 :: a3 :: a4 :: a5 :: a6 :: a7 :: a8 :: a9 :: a10 :: a11 :: a12 :: a13 :: a14 :: a15 :: a16 :: a17 :: (x, w) :: r) (a0 :: a1 :: a2 :: a3 :: a4 :: a5 :: a6 :: a7 :: a8 :: a9 :: a10 :: a11 :: a12 :: a13 :: a14 :: a15 :: a16 :: a17 :: (x, v) :: r) := .tail up17
theorem up19 {x : Str} {v w : Option V} {a0 a1 a2 a3 a4 a5 a6 a7 a8 a9 a10 a11 a12 a13 a14 a15 a16 a17 a18 : Str × Option V} {r : Loc} : Up x v (a0 :: a1 :: a2 :: a3 :: a4 :: a5 :: a6 :: a7 :: a8 :: a9 :: a10 :: a11 :: a12 :: a13 :: a14 :: a15 :: a16 :: a17 :: a18 :: (x, w) :: r) (a0 :: a1 :: a2 :: a3 :: a4 :: a5 :: a6 :: a7 :: a8 :: a9 :: a10 :: a11 :: a12 :: a13 :: a14 :: a15 :: a16 :: a17 :: a18 :: (x, v) :: r) := .tail up18
theorem up20 {x : Str} {v w : Option V} {a0 a1 a2 a3 a4 a5 a6 a7 a8 a9 a10 a11 a12 a13 a14 a15 a16 a17 a18 a19 : Str × Option V} {r : Loc} : Up x v (a0 :: a1 :: a2 :: a3 :: a4 :: a5 :: a6 :: a7 :: a8 :: a9 :: a10 :: a11 :: a12 :: a13 :: a14 :: a15 :: a16 :: a17 :: a18 :: a19 :: (x, w) :: r) (a0 :: a1 :: a2 :: a3 :: a4 :: a5 :: a6 :: a7 :: a8 :: a9 :: a10 :: a11 :: a12 :: a13 :: a14 :: a15 :: a16 :: a17 :: a18 :: a19 :: (x, v) :: r) := .tail up19
end Mine

-- part T14
set_option linter.unusedVariables false
namespace Mine
open PySem PySem.W PyProof.Rows
local macro_rules | `(tactic| walk_at "mem") => `(tactic| (with_reducible first | exact mem0 | exact mem1 | exact mem2 | exact mem3 | exact mem4 | exact mem5 | exact mem6 | exact mem7 | exact mem8 | exact mem9 | exact mem10 | exact mem11 | exact mem12 | exact mem13 | exact mem14 | exact mem15 | exact mem16 | exact mem17 | exact mem18 | exact mem19 | exact mem20))
local macro_rules | `(tactic| walk_at "up") => `(tactic| (with_reducible first | exact up0 | exact up1 | exact up2 | exact up3 | exact up4 | exact up5 | exact up6 | exact up7 | exact up8 | exact up9 | exact up10 | exact up11 | exact up12 | exact up13 | exact up14 | exact up15 | exact up16 | exact up17 | exact up18 | exact up19 | exact up20))
local macro_rules | `(tactic| walk_at "w") => `(tactic| first
  | refine Thn_next ?_ | refine Thn_ret ?_ | refine Thn_brk ?_ | refine Thn_cont ?_ | refine LoopPost_next ?_ | refine LoopPost_ret ?_ | refine LoopPost_brk ?_ | refine LoopPost_cont ?_ | refine WSs_cons ?_ | refine WSs_nil ?_
  | (apply WE_name; focus (walk_at "mem")) | refine WE_int ?_
  | refine WL_nil ?_ | refine WL_cons ?_
  | refine WS_assign ?_ | refine WS_return ?_ | refine WS_expr ?_ | refine WS_if ?_ | refine WS_assign_tuple ?_ | refine WS_pass ?_ | refine WS_break ?_ | refine WS_continue ?_
  | refine WE_str ?_ | refine WE_none ?_ | refine WE_bool ?_
  | refine WE_BinOp ?_ | refine WE_UnaryOp ?_ | refine WE_Compare1 ?_ | refine WB_Compare1 ?_ | refine WB_Compare2 ?_ | refine WB_Not ?_ | refine WE_IfExp ?_ | refine WE_one ?_ | refine WE_and ?_ | refine WE_or ?_ | refine WIf_nil ?_ | refine WIf_true ?_ | refine WIf_false ?_ | refine WB_and ?_ | refine WB_or ?_ | refine WB_and_nil ?_ | refine WB_or_nil ?_
  | refine WE_menuX ?_ | refine WO_none ?_ | refine WO_some ?_ | refine exInt ?_ | refine WE_List ?_ | refine WE_Tuple ?_ | refine WE_Sub ?_
  | refine add_ii ?_ | refine sub_ii ?_ | refine lt_ii ?_ | refine gt_ii ?_ | refine le_ii ?_ | refine ge_ii ?_ | refine eq_ii ?_ | refine ne_ii ?_ | refine eq_ss ?_ | refine ne_ss ?_ | refine neg_i ?_ | (apply mod_ii; focus decide) | (apply fdiv_lit; focus decide)
  | refine WTr_bool ?_ | refine WAsL_nil ?_ | refine WAsL_cons ?_ | (apply WAs_name; focus (walk_at "up")) | (apply exUp; focus (walk_at "up")) | refine szAnd ?_
  | (apply ite_t; focus decide) | (apply ite_f; focus decide))
local macro_rules | `(tactic| walk_at "ww") => `(tactic| repeat walk_at "w")
local macro_rules | `(tactic| walk_at "ob") => `(tactic| first | assumption | exact ObjAt.new rfl | (refine ObjAt.up ?_; walk_at "ob"))
local macro_rules | `(tactic| walk_at "len") => `(tactic| (refine WE_call (by walk_at "mem") callable_builtin ?_; walk_at "ww"; refine WC_len (by walk_at "ob") (by simp; omega) ?_; walk_at "ww"))
local macro_rules | `(tactic| walk_at "x") => `(tactic| first | refine WE_head ?_ | walk_at "w" | refine ThR_next ?_ | refine WS_setattr ?_ | refine WE_attr ?_ | refine WS_setslice ?_ | refine WS_setitem ?_)
local macro_rules | `(tactic| walk_at "xx") => `(tactic| repeat walk_at "x")
noncomputable def topObjs : List (Addr × O) := [(50, .tuple [.int 0, .int 1]),
  (51, .tuple [.int 1, .int 1]),
  (52, .list [.k (.ref 50), .k (.ref 51)]),
  (53, .tuple [.str (Str.ofString "odd"), .int (-1), .k (.ref 52), .int 0, .int 1]),
  (54, .tuple [.int (-1), .int 1]),
  (55, .tuple [.int 0, .int 1]),
  (56, .list [.k (.ref 54), .k (.ref 55)]),
  (57, .tuple [.str (Str.ofString "even"), .int 1, .k (.ref 56), .int 2, .int 2]),
  (58, .list [.k (.ref 53), .k (.ref 57)]),
  (94, .list [.str (Str.ofString "haar"), .str (Str.ofString "five"), .str (Str.ofString "six"), .str (Str.ofString "nine"), .str (Str.ofString "thirteen")]),
  (95, .list [.str (Str.ofString "edge"), .str (Str.ofString "mirror"), .str (Str.ofString "ring")])]
theorem topObjs_ok {P : Params} {h : Heap} (K : (hd.heap_39 P).In h) : ∀ b o, (b, o) ∈ topObjs → GO P h b o := by
  intro b o hb
  rcases List.mem_cons.mp hb with e | hb
  · cases e; exact ⟨_, ⟨_, K _ _ rfl, rfl, _, rfl⟩, .cons ⟨_, rfl⟩ (.cons ⟨_, rfl⟩ .nil)⟩
  rcases List.mem_cons.mp hb with e | hb
  · cases e; exact ⟨_, ⟨_, K _ _ rfl, rfl, _, rfl⟩, .cons ⟨_, rfl⟩ (.cons ⟨_, rfl⟩ .nil)⟩
  rcases List.mem_cons.mp hb with e | hb
  · cases e; exact ⟨_, ⟨_, K _ _ rfl, rfl, _, rfl⟩, .cons rfl (.cons rfl .nil)⟩
  rcases List.mem_cons.mp hb with e | hb
  · cases e; exact ⟨_, ⟨_, K _ _ rfl, rfl, _, rfl⟩, .cons ⟨_, rfl⟩ (.cons ⟨_, rfl⟩ (.cons rfl (.cons ⟨_, rfl⟩ (.cons ⟨_, rfl⟩ .nil))))⟩
  rcases List.mem_cons.mp hb with e | hb
  · cases e; exact ⟨_, ⟨_, K _ _ rfl, rfl, _, rfl⟩, .cons ⟨_, rfl⟩ (.cons ⟨_, rfl⟩ .nil)⟩
  rcases List.mem_cons.mp hb with e | hb
  · cases e; exact ⟨_, ⟨_, K _ _ rfl, rfl, _, rfl⟩, .cons ⟨_, rfl⟩ (.cons ⟨_, rfl⟩ .nil)⟩
  rcases List.mem_cons.mp hb with e | hb
  · cases e; exact ⟨_, ⟨_, K _ _ rfl, rfl, _, rfl⟩, .cons rfl (.cons rfl .nil)⟩
  rcases List.mem_cons.mp hb with e | hb
  · cases e; exact ⟨_, ⟨_, K _ _ rfl, rfl, _, rfl⟩, .cons ⟨_, rfl⟩ (.cons ⟨_, rfl⟩ (.cons rfl (.cons ⟨_, rfl⟩ (.cons ⟨_, rfl⟩ .nil))))⟩
  rcases List.mem_cons.mp hb with e | hb
  · cases e; exact ⟨_, ⟨_, K _ _ rfl, rfl, _, rfl⟩, .cons rfl (.cons rfl .nil)⟩
  rcases List.mem_cons.mp hb with e | hb
  · cases e; exact ⟨_, ⟨_, K _ _ rfl, rfl, _, rfl⟩, .cons ⟨_, rfl⟩ (.cons ⟨_, rfl⟩ (.cons ⟨_, rfl⟩ (.cons ⟨_, rfl⟩ (.cons ⟨_, rfl⟩ .nil))))⟩
  rcases List.mem_cons.mp hb with e | hb
  · cases e; exact ⟨_, ⟨_, K _ _ rfl, rfl, _, rfl⟩, .cons ⟨_, rfl⟩ (.cons ⟨_, rfl⟩ (.cons ⟨_, rfl⟩ .nil))⟩
  exact nomatch hb
noncomputable def lawGlo : List (Str × Value) := [(Str.ofString "len", Value.builtin "len"), (Str.ofString "range", Value.type "range"), (Str.ofString "list", Value.type "list"), (Str.ofString "str", Value.type "str"), (Str.ofString "int", Value.type "int"), (Str.ofString "type", Value.type "type"), (Str.ofString "tuple", Value.type "tuple"), (Str.ofString "min", Value.builtin "min"), (Str.ofString "max", Value.builtin "max"), (Str.ofString "abs", Value.builtin "abs"), (Str.ofString "sum", Value.builtin "sum"), (Str.ofString "reversed", Value.type "reversed"), (Str.ofString "PackError", Value.ref 24), (Str.ofString "shown", Value.ref 34), (Str.ofString "need_number", Value.ref 41), (Str.ofString "STEPS", Value.ref 42), (Str.ofString "KINDS", Value.ref 94), (Str.ofString "BORDERS", Value.ref 95), (Str.ofString "need_kind", Value.ref 102), (Str.ofString "need_border", Value.ref 109), (Str.ofString "place", Value.ref 116), (Str.ofString "_turn", Value.ref 123), (Str.ofString "forward_steps", Value.ref 130), (Str.ofString "turned", Value.ref 135), (Str.ofString "part_rows", Value.ref 140), (Str.ofString "part_columns", Value.ref 145), (Str.ofString "forward_waves", Value.ref 150), (Str.ofString "MOST_LEVELS", Value.int 6 414), (Str.ofString "shapes", Value.ref 157), (Str.ofString "Trees", Value.ref 207), (Str.ofString "_rows", Value.ref 218), (Str.ofString "plain_greatest", Value.ref 225), (Str.ofString "_law_cell", Value.ref 232), (Str.ofString "_law_image", Value.ref 237)]
/-- the facts of this law's top -/
structure Law (C : Cx) : Prop where
  K : (hd.heap_39 C.w.params).In C.G
  top : ∀ x ∈ topObjs, x ∈ C.gob
  glo : ∀ x v, (x, v) ∈ lawGlo → C.mg x = some v ∨ (C.mg x = none ∧ C.mb x = some v)
  exc : OwnCls (Str.ofString "PackError") 24 [.type "ValueError", .type "Exception", .type "BaseException", .type "object"] "ValueError.__new__" C.mg C.G
theorem Law.wg {C : Cx} (c : Law C) (l : List (Str × Value)) : Law (C.wg l) := ⟨c.K, c.top, c.glo, c.exc⟩
theorem Law.c41 {C : Cx} (c : Law C) : Callable C (.ref 41) := callable_K c.K (by kernel_rfl)
theorem Law.c102 {C : Cx} (c : Law C) : Callable C (.ref 102) := callable_K c.K (by kernel_rfl)
theorem Law.c109 {C : Cx} (c : Law C) : Callable C (.ref 109) := callable_K c.K (by kernel_rfl)
theorem Law.c116 {C : Cx} (c : Law C) : Callable C (.ref 116) := callable_K c.K (by kernel_rfl)
theorem Law.c123 {C : Cx} (c : Law C) : Callable C (.ref 123) := callable_K c.K (by kernel_rfl)
theorem Law.c130 {C : Cx} (c : Law C) : Callable C (.ref 130) := callable_K c.K (by kernel_rfl)
theorem Law.c135 {C : Cx} (c : Law C) : Callable C (.ref 135) := callable_K c.K (by kernel_rfl)
theorem Law.c140 {C : Cx} (c : Law C) : Callable C (.ref 140) := callable_K c.K (by kernel_rfl)
theorem Law.c145 {C : Cx} (c : Law C) : Callable C (.ref 145) := callable_K c.K (by kernel_rfl)
theorem Law.c150 {C : Cx} (c : Law C) : Callable C (.ref 150) := callable_K c.K (by kernel_rfl)
theorem Law.c157 {C : Cx} (c : Law C) : Callable C (.ref 157) := callable_K c.K (by kernel_rfl)
theorem Law.c207 {C : Cx} (c : Law C) : Callable C (.ref 207) := callable_K c.K (by kernel_rfl)
theorem Law.c218 {C : Cx} (c : Law C) : Callable C (.ref 218) := callable_K c.K (by kernel_rfl)
theorem Law.c225 {C : Cx} (c : Law C) : Callable C (.ref 225) := callable_K c.K (by kernel_rfl)
theorem Law.c232 {C : Cx} (c : Law C) : Callable C (.ref 232) := callable_K c.K (by kernel_rfl)
theorem Law.c237 {C : Cx} (c : Law C) : Callable C (.ref 237) := callable_K c.K (by kernel_rfl)
theorem cell_spec {C : Cx} {A : Around} {σ : AH} {E : EX} {Q : V → AH → Prop} {a : Addr} {ns : List Int} {k : Int} (c : Law C) (hd : A.depth < recursionLimit) (hg : (a, O.list (ns.map .int)) ∈ C.gob) (hl : ns.length ≤ 63) (hk : 0 ≤ k) (hq : Q (.int (ns.getD k.toNat 0)) σ) : WC C A (.ref 232) [.k (.ref a), .int k] σ Q E := by
  refine WC_def (pn := [Str.ofString "script", Str.ofString "k"]) (ln := []) (gl := [(Str.ofString "len", Value.builtin "len")]) (dv := []) (ds := []) (c.K _ _ rfl) rfl (codeRec_of c.K (by kernel_rfl)) (by first | exact Room.dep0 (by assumption) | assumption | omega | exact Nat.le_of_ble_eq_true rfl) .nil rfl (fun x v h => c.glo x v ((show ∀ p ∈ ([(Str.ofString "len", Value.builtin "len")] : List (Str × Value)), p ∈ lawGlo by decide +kernel) (x, v) h)) ?_ (by decide +kernel) (by decide +kernel) (by decide +kernel) (by decide +kernel) ?_
  · intro s xs hkp hl
    obtain ⟨x0, x1, rfl⟩ := len2 hl
    first | exact BindsTo.of_eq rfl | exact BindsTo.of_defaults rfl (hkp _ _ (c.K _ _ rfl)) rfl rfl rfl
  intro env henv
  replace c := c.wg [(Str.ofString "len", Value.builtin "len")]
  show WSs (C.wg [(Str.ofString "len", Value.builtin "len")]) _ _ _ [(Str.ofString "script", some (.k (.ref a))), (Str.ofString "k", some (.int k))] _ _ _
  walk_at "ww"
  refine WE_call (by walk_at "mem") callable_builtin ?_
  walk_at "ww"
  refine WC_len (show ObjAt _ _ (.k (.ref a)) _ from hg) (by simp; omega) ?_
  walk_at "ww"
  refine ite_b (fun hb => ?_) fun hb => ?_
  · have hb' := of_decide_eq_true hb
    simp only [List.length_map] at hb'
    have hi : k.toNat < ns.length := by omega
    walk_at "ww"
    refine item_list (x := .int (ns.getD k.toNat 0)) (show ObjAt _ _ (.k (.ref a)) _ from hg) hk (by omega) (by simp [List.getD, hi]) ?_
    walk_at "ww"
    exact hq
  · have hb' := of_decide_eq_false hb
    simp only [List.length_map] at hb'
    have e : ns.getD k.toNat 0 = 0 := by rw [List.getD, List.getElem?_eq_none (by omega)]; rfl
    walk_at "ww"
    rw [e] at hq
    exact hq
theorem Law.m {C : Cx} (c : Law C) (i : Nat) {p : Addr × O} (h : topObjs[i]? = some p) : p ∈ C.gob := c.top _ (List.mem_of_getElem? h)
theorem ObjAt.glob {C : Cx} {σ : AH} {v : V} {o : O} (h : ObjAt C [] v o) : ObjAt C σ v o := by
  cases v with
  | ref j => simp [ObjAt] at h
  | k x => cases x <;> exact h
  | _ => exact h.elim
theorem getD_int (xs : List Int) (i : Nat) (h : i < xs.length) : (xs.map V.int)[i]? = some (.int (xs.getD i 0)) := by
  simp [List.getD, h]
theorem number_ok {C : Cx} {A : Around} {σ : AH} {E : EX} {Q : V → AH → Prop} {v lo hi : Int} {w : Str} (c : Law C) (rm : Room A 1) (h0 : lo ≤ v) (h1 : v ≤ hi) (hq : Q (.int v) σ) : WC C A (.ref 41) [.int v, .int lo, .int hi, .str w] σ Q E := by
  refine WC_def (pn := [Str.ofString "value", Str.ofString "least", Str.ofString "most", Str.ofString "what"]) (ln := []) (gl := [(Str.ofString "type", Value.type "type"), (Str.ofString "int", Value.type "int"), (Str.ofString "PackError", Value.ref 24), (Str.ofString "shown", Value.ref 34)]) (dv := []) (ds := []) (c.K _ _ rfl) rfl (codeRec_of c.K (by kernel_rfl)) (by first | exact Room.dep0 (by assumption) | assumption | omega | exact Nat.le_of_ble_eq_true rfl) .nil rfl (fun x v h => c.glo x v ((show ∀ p ∈ ([(Str.ofString "type", Value.type "type"), (Str.ofString "int", Value.type "int"), (Str.ofString "PackError", Value.ref 24), (Str.ofString "shown", Value.ref 34)] : List (Str × Value)), p ∈ lawGlo by decide +kernel) (x, v) h)) ?_ (by decide +kernel) (by decide +kernel) (by decide +kernel) (by decide +kernel) ?_
  · intro s xs hkp hl
    obtain ⟨x0, x1, x2, x3, rfl⟩ := len4 hl
    first | exact BindsTo.of_eq rfl | exact BindsTo.of_defaults rfl (hkp _ _ (c.K _ _ rfl)) rfl rfl rfl
  intro env henv
  replace c := c.wg [(Str.ofString "type", Value.type "type"), (Str.ofString "int", Value.type "int"), (Str.ofString "PackError", Value.ref 24), (Str.ofString "shown", Value.ref 34)]
  show WSs (C.wg [(Str.ofString "type", Value.type "type"), (Str.ofString "int", Value.type "int"), (Str.ofString "PackError", Value.ref 24), (Str.ofString "shown", Value.ref 34)]) _ _ _ [(Str.ofString "value", some (.int v)), (Str.ofString "least", some (.int lo)), (Str.ofString "most", some (.int hi)), (Str.ofString "what", some (.str w))] _ _ _
  walk_at "xx"
  refine WE_call (by walk_at "mem") callable_type ?_
  walk_at "xx"
  refine WC_typeI ?_
  refine WE_glob (by walk_at "mem") ?_
  refine isNot_self_k ?_
  walk_at "xx"
  refine ite_f (decide_eq_false (by omega)) ?_
  walk_at "xx"
  refine ite_f (decide_eq_false (by omega)) ?_
  walk_at "xx"
  exact hq
theorem need_kind_spec {C : Cx} {A : Around} {σ : AH} {E : EX} {Q : V → AH → Prop} (c : Law C) (rm : Room A 1) (hq : Q (.str (Str.ofString "five")) σ) :
    WC C A (.ref 102) [.str (Str.ofString "five")] σ Q E := by
  refine WC_def (pn := [Str.ofString "kind"]) (ln := []) (gl := [(Str.ofString "KINDS", Value.ref 94)]) (dv := []) (ds := []) (c.K _ _ rfl) rfl (codeRec_of c.K (by kernel_rfl)) (by first | exact Room.dep0 (by assumption) | assumption | omega | exact Nat.le_of_ble_eq_true rfl) .nil rfl (fun x v h => c.glo x v ((show ∀ p ∈ ([(Str.ofString "KINDS", Value.ref 94)] : List (Str × Value)), p ∈ lawGlo by decide +kernel) (x, v) h)) ?_ (by decide +kernel) (by decide +kernel) (by decide +kernel) (by decide +kernel) ?_
  · intro s xs hkp hl
    obtain ⟨x0, rfl⟩ := len1 hl
    first | exact BindsTo.of_eq rfl | exact BindsTo.of_defaults rfl (hkp _ _ (c.K _ _ rfl)) rfl rfl rfl
  intro env henv
  replace c := c.wg [(Str.ofString "KINDS", Value.ref 94)]
  show WSs (C.wg [(Str.ofString "KINDS", Value.ref 94)]) _ _ _ [(Str.ofString "kind", some (.str (Str.ofString "five")))] _ _ _
  have rm := rm.deep (env := env)
  walk_at "xx"
  refine WE_glob (by walk_at "mem") ?_
  refine nin_list_dd .str (.list (show ObjAt _ _ (.k (.ref 94)) _ from c.m 9 rfl) (.cons .str (.cons .str (.cons .str (.cons .str (.cons .str .nil)))))) (by decide +kernel) (by decide +kernel) rm.u ?_
  have e : (!([PyData.str (Str.ofString "haar"), .str (Str.ofString "five"), .str (Str.ofString "six"), .str (Str.ofString "nine"), .str (Str.ofString "thirteen")].any fun y => PyData.eqv y (.str (Str.ofString "five")))) = false := by decide +kernel
  rw [e]
  walk_at "xx"
  exact hq
theorem need_border_spec {C : Cx} {A : Around} {σ : AH} {E : EX} {Q : V → AH → Prop} (c : Law C) (rm : Room A 1) (hq : Q (.str (Str.ofString "edge")) σ) :
    WC C A (.ref 109) [.str (Str.ofString "edge")] σ Q E := by
  refine WC_def (pn := [Str.ofString "border"]) (ln := []) (gl := [(Str.ofString "BORDERS", Value.ref 95)]) (dv := []) (ds := []) (c.K _ _ rfl) rfl (codeRec_of c.K (by kernel_rfl)) (by first | exact Room.dep0 (by assumption) | assumption | omega | exact Nat.le_of_ble_eq_true rfl) .nil rfl (fun x v h => c.glo x v ((show ∀ p ∈ ([(Str.ofString "BORDERS", Value.ref 95)] : List (Str × Value)), p ∈ lawGlo by decide +kernel) (x, v) h)) ?_ (by decide +kernel) (by decide +kernel) (by decide +kernel) (by decide +kernel) ?_
  · intro s xs hkp hl
    obtain ⟨x0, rfl⟩ := len1 hl
    first | exact BindsTo.of_eq rfl | exact BindsTo.of_defaults rfl (hkp _ _ (c.K _ _ rfl)) rfl rfl rfl
  intro env henv
  replace c := c.wg [(Str.ofString "BORDERS", Value.ref 95)]
  show WSs (C.wg [(Str.ofString "BORDERS", Value.ref 95)]) _ _ _ [(Str.ofString "border", some (.str (Str.ofString "edge")))] _ _ _
  have rm := rm.deep (env := env)
  walk_at "xx"
  refine WE_glob (by walk_at "mem") ?_
  refine nin_list_dd .str (.list (show ObjAt _ _ (.k (.ref 95)) _ from c.m 10 rfl) (.cons .str (.cons .str (.cons .str .nil)))) (by decide +kernel) (by decide +kernel) rm.u ?_
  have e : (!([PyData.str (Str.ofString "edge"), .str (Str.ofString "mirror"), .str (Str.ofString "ring")].any fun y => PyData.eqv y (.str (Str.ofString "edge")))) = false := by decide +kernel
  rw [e]
  walk_at "xx"
  exact hq
theorem place_spec {C : Cx} {A : Around} {σ : AH} {E : EX} {Q : V → AH → Prop} {k n : Int} (c : Law C) (rm : Room A 1) (hn : 1 ≤ n) (hq : ∀ p : Int, 0 ≤ p → p < n → Q (.int p) σ) :
    WC C A (.ref 116) [.int k, .int n, .str (Str.ofString "edge")] σ Q E := by
  refine WC_def (pn := [Str.ofString "k", Str.ofString "count", Str.ofString "border"]) (ln := []) (gl := [(Str.ofString "min", Value.builtin "min"), (Str.ofString "max", Value.builtin "max")]) (dv := []) (ds := []) (c.K _ _ rfl) rfl (codeRec_of c.K (by kernel_rfl)) (by first | exact Room.dep0 (by assumption) | assumption | omega | exact Nat.le_of_ble_eq_true rfl) .nil rfl (fun x v h => c.glo x v ((show ∀ p ∈ ([(Str.ofString "min", Value.builtin "min"), (Str.ofString "max", Value.builtin "max")] : List (Str × Value)), p ∈ lawGlo by decide +kernel) (x, v) h)) ?_ (by decide +kernel) (by decide +kernel) (by decide +kernel) (by decide +kernel) ?_
  · intro s xs hkp hl
    obtain ⟨x0, x1, x2, rfl⟩ := len3 hl
    first | exact BindsTo.of_eq rfl | exact BindsTo.of_defaults rfl (hkp _ _ (c.K _ _ rfl)) rfl rfl rfl
  intro env henv
  replace c := c.wg [(Str.ofString "min", Value.builtin "min"), (Str.ofString "max", Value.builtin "max")]
  show WSs (C.wg [(Str.ofString "min", Value.builtin "min"), (Str.ofString "max", Value.builtin "max")]) _ _ _ [(Str.ofString "k", some (.int k)), (Str.ofString "count", some (.int n)), (Str.ofString "border", some (.str (Str.ofString "edge")))] _ _ _
  walk_at "xx"
  refine WE_call (by walk_at "mem") callable_builtin ?_
  walk_at "xx"
  refine WE_call (by walk_at "mem") callable_builtin ?_
  walk_at "xx"
  refine WC_min rm.han ?_
  walk_at "xx"
  refine WC_max rm.han ?_
  walk_at "xx"
  exact hq _ (by omega) (by omega)
/-- a step of the top -/
structure StepO (C : Cx) (v : V) (od : Str) (sg : Int) (n : Nat) : Prop where
  ex : ∃ rv add sh rs, ObjAt C [] v (.tuple [.str od, .int sg, rv, .int add, .int sh]) ∧ 0 ≤ sh ∧ ObjAt C [] rv (.list rs) ∧ rs.length = n ∧ ∀ i, i < n → ∃ o w : Int, -(2 ^ 63) ≤ w ∧ w ≤ 2 ^ 63 ∧ ObjAt C [] (rs.getD i .none) (.tuple [.int o, .int w])
theorem turn_spec {C : Cx} {A : Around} {σ τ : AH} {E : EX} {Q : V → AH → Prop} {vh vo vs : V} {hs os : List Int} {od : Str} {sg : Int} {n : Nat} (c : Law C) (rm : Room A 2) (sh : Sh τ σ)
    (hst : StepO C vs od sg n) (hsg : -(2 ^ 63) ≤ sg ∧ sg ≤ 2 ^ 63) (oh : Rd C τ vh (rowI hs)) (oo : Rd C τ vo (rowI os)) (lh : hs.length ≤ 100) (lo : os.length ≤ 100)
    (hq : ∀ v J r, r.length = hs.length → Rd C (τ ++ J) v (rowI r) → Q v (σ ++ J)) :
    WC C A (.ref 123) [vh, vo, vs, .str (Str.ofString "edge"), .int sg] σ Q E := by
  refine WC_def (pn := [Str.ofString "half", Str.ofString "other", Str.ofString "step", Str.ofString "border", Str.ofString "sign"]) (ln := [Str.ofString "rows", Str.ofString "out", Str.ofString "i", Str.ofString "total", Str.ofString "offset", Str.ofString "weight"]) (gl := [(Str.ofString "len", Value.builtin "len"), (Str.ofString "range", Value.type "range"), (Str.ofString "place", Value.ref 116)]) (dv := []) (ds := []) (c.K _ _ rfl) rfl (codeRec_of c.K (by kernel_rfl)) (by first | exact Room.dep0 (by assumption) | assumption | omega | exact Nat.le_of_ble_eq_true rfl) .nil rfl (fun x v h => c.glo x v ((show ∀ p ∈ ([(Str.ofString "len", Value.builtin "len"), (Str.ofString "range", Value.type "range"), (Str.ofString "place", Value.ref 116)] : List (Str × Value)), p ∈ lawGlo by decide +kernel) (x, v) h)) ?_ (by decide +kernel) (by decide +kernel) (by decide +kernel) (by decide +kernel) ?_
  · intro s xs hkp hl
    obtain ⟨x0, x1, x2, x3, x4, rfl⟩ := len5 hl
    first | exact BindsTo.of_eq rfl | exact BindsTo.of_defaults rfl (hkp _ _ (c.K _ _ rfl)) rfl rfl rfl
  intro env henv
  replace c := c.wg [(Str.ofString "len", Value.builtin "len"), (Str.ofString "range", Value.type "range"), (Str.ofString "place", Value.ref 116)]
  show WSs (C.wg [(Str.ofString "len", Value.builtin "len"), (Str.ofString "range", Value.type "range"), (Str.ofString "place", Value.ref 116)]) _ _ _ [(Str.ofString "half", some (vh)), (Str.ofString "other", some (vo)), (Str.ofString "step", some (vs)), (Str.ofString "border", some (.str (Str.ofString "edge"))), (Str.ofString "sign", some (.int sg)), (Str.ofString "rows", none), (Str.ofString "out", none), (Str.ofString "i", none), (Str.ofString "total", none), (Str.ofString "offset", none), (Str.ofString "weight", none)] _ _ _
  have rm := rm.deep (env := env)
  have oh' := oh.rowI_inv.shl sh
  have oo' := oo.rowI_inv.shl sh
  walk_at "xx"
  refine WE_call (by walk_at "mem") callable_builtin ?_
  walk_at "xx"
  refine WC_len oo' (by simp; omega) ?_
  walk_at "xx"
  refine ite_b (fun hb => ?_) fun hb => ?_
  · walk_at "xx"
    have h0 := hq vh [] hs rfl
    rw [List.append_nil, List.append_nil] at h0
    exact h0 oh
  · have hol : 1 ≤ os.length := by
      rcases Nat.eq_zero_or_pos os.length with h | h
      · rw [List.length_map, h] at hb; cases hb
      · exact h
    obtain ⟨rv, add, shf, rs, hst, hsh, hrl, hrn, hrow⟩ := hst.ex
    walk_at "xx"
    refine item_tuple hst.glob (by decide) (by decide) rfl ?_
    walk_at "xx"
    refine WS_for (WItr_rng rm.han (by walk_at "mem") ?_)
    walk_at "xx"
    refine WE_call (by walk_at "mem") callable_builtin ?_
    walk_at "xx"
    refine WC_len oh'.up (by simp; omega) ?_
    walk_at "xx"
    rw [List.length_map]
    refine exNat ⟨by omega, ?_⟩
    refine ⟨fun i ρ' σ' => ∃ acc : List Int, acc.length = i ∧ σ' = σ ++ [O.list (acc.map .int)] ∧ ∃ t0 t1 t2 t3, ρ' = ([(Str.ofString "half", some vh), (Str.ofString "other", some vo), (Str.ofString "step", some vs), (Str.ofString "border", some (V.str (Str.ofString "edge"))), (Str.ofString "sign", some (V.int sg)), (Str.ofString "rows", some rv), (Str.ofString "out", some (V.ref (List.length σ))), (Str.ofString "i", t0), (Str.ofString "total", t1), (Str.ofString "offset", t2), (Str.ofString "weight", t3)] : Loc), ⟨[], rfl, rfl, _, _, _, _, rfl⟩, ?_, ?_⟩
    · rintro i ρ' σ' hi ⟨acc, hacc, rfl, t0, t1, t2, t3, rfl⟩
      refine ⟨trivial, ?_⟩
      walk_at "xx"
      refine item_tuple hst.glob (by decide) (by decide) rfl ?_
      walk_at "xx"
      refine WS_for (WItr_of ?_)
      walk_at "xx"
      refine ⟨_, _, _, Itb_list rm.han hrl.glob, ?_⟩
      refine ⟨fun j ρ' σ' => σ' = σ ++ [O.list (acc.map .int)] ∧ ∃ (t : Int) (t2 t3 : Option V), ρ' = ([(Str.ofString "half", some vh), (Str.ofString "other", some vo), (Str.ofString "step", some vs), (Str.ofString "border", some (V.str (Str.ofString "edge"))), (Str.ofString "sign", some (V.int sg)), (Str.ofString "rows", some rv), (Str.ofString "out", some (V.ref (List.length σ))), (Str.ofString "i", (some (.int i))), (Str.ofString "total", (some (.int t))), (Str.ofString "offset", t2), (Str.ofString "weight", t3)] : Loc), ⟨rfl, _, _, _, rfl⟩, ?_, ?_⟩
      · rintro j ρ' σ' hj ⟨rfl, t, u2, u3, rfl⟩
        refine ⟨hrl.glob, ?_⟩
        obtain ⟨o, w, w1, w2, hro⟩ := hrow j (by omega)
        refine WAs_tuple rm.han hro.glob ?_
        walk_at "xx"
        refine WE_call (by walk_at "mem") c.c116 ?_
        walk_at "xx"
        refine WE_call (by walk_at "mem") callable_builtin ?_
        walk_at "xx"
        refine WC_len oo'.up (by simp; omega) ?_
        walk_at "xx"
        rw [List.length_map]
        refine place_spec c rm.le (by omega) fun p p1 p2 => ?_
        refine item_list oo'.up p1 (by omega) (getD_int _ _ (by omega)) ?_
        walk_at "xx"
        refine mul_ii (mul_small w1 w2) ?_
        walk_at "xx"
        exact ⟨rfl, _, _, _, rfl⟩
      · rintro ρ' σ' ⟨rfl, t, u2, u3, rfl⟩
        refine ⟨hrl.glob, ?_⟩
        walk_at "xx"
        refine WE_meth ?_
        walk_at "xx"
        have hL : (σ ++ [O.list (acc.map .int)])[σ.length]? = some (O.list (acc.map .int)) := by simp
        refine WM_append hL ⟨callable_builtin, ?_⟩
        walk_at "xx"
        refine item_list oh'.up (by omega) (by omega) (getD_int _ _ (by omega)) ?_
        walk_at "xx"
        refine item_tuple hst.glob (by decide) (by decide) rfl ?_
        walk_at "xx"
        refine shr_ii hsh ?_
        walk_at "xx"
        refine mul_ii (mul_small hsg.1 hsg.2) ?_
        walk_at "xx"
        refine WC_append hL (by simp [sizeLine]; omega) ?_
        walk_at "xx"
        exact ⟨acc ++ [hs.getD (i : Int).toNat 0 + sg * t.fdiv (2 ^ shf.toNat)], by simp [hacc], by simp, _, _, _, _, rfl⟩
    · rintro ρ' σ' ⟨acc, hacc, rfl, t0, t1, t2, t3, rfl⟩
      refine ⟨trivial, ?_⟩
      walk_at "xx"
      exact hq (.ref σ.length) _ acc hacc (Rd.lst (.new sh.len.symm))
theorem stepA {C : Cx} (c : Law C) : StepO C (.k (.ref 53)) (Str.ofString "odd") (-1) 2 :=
  ⟨_, _, _, _, c.m 3 rfl, by decide, c.m 2 rfl, rfl, fun i hi => match i, hi with
    | 0, _ => ⟨_, _, by decide, by decide, c.m 0 rfl⟩
    | 1, _ => ⟨_, _, by decide, by decide, c.m 1 rfl⟩⟩
theorem stepB {C : Cx} (c : Law C) : StepO C (.k (.ref 57)) (Str.ofString "even") 1 2 :=
  ⟨_, _, _, _, c.m 7 rfl, by decide, c.m 6 rfl, rfl, fun i hi => match i, hi with
    | 0, _ => ⟨_, _, by decide, by decide, c.m 4 rfl⟩
    | 1, _ => ⟨_, _, by decide, by decide, c.m 5 rfl⟩⟩
theorem kind_item {C : Cx} {A : Around} {σ : AH} {E : EX} {Q : V → AH → Prop} {value slice : PySem.Expr} (c : Law C) (h : Q (.k (.ref 58)) σ) (hs : isSliceE slice = false := by rfl) : WSub C A value slice (.k (.ref 42)) (.str (Str.ofString "five")) σ Q E := by
  have kl : ∀ {es : Array DictEntry} {n : Nat}, (hd.heap_39 C.w.params).lookup 42 = some ⟨.type "dict", none, .dict es n, #[]⟩ → KeysLit C.w.params es.toList := by
    intro es n e
    have e2 : (hd.heap_39 C.w.params).lookup 42 = _ := rfl
    cases e.symm.trans e2
    exact ⟨⟨_, _, rfl, rfl⟩, ⟨_, _, rfl, rfl⟩, ⟨_, _, rfl, rfl⟩, ⟨_, _, rfl, rfl⟩, ⟨_, _, rfl, rfl⟩, trivial⟩
  exact item_gdict c.K rfl (kl rfl) (by kernel_rfl) h hs
theorem pick_map (r : List Int) (l u k : Option Int) : pickV (r.map V.int) l u k = (pickV r l u k).map V.int := by
  unfold pickV
  rw [List.length_map, List.map_filterMap]
  congr 1
  funext j
  simp
theorem fm_len (r : List Int) (n : Nat) (g : Nat → Nat) (h : ∀ k, k < n → g k < r.length) : (((List.range n).map g).filterMap (r[·]?)).length = n := by
  induction n with
  | zero => rfl
  | succ n ih =>
    rw [List.range_succ, List.map_append, List.filterMap_append, List.length_append, ih fun k hk => h k (by omega)]
    have := h n (by omega)
    simp [this]
theorem pick_evs (r : List Int) : (pickV r (some 0) none (some 2)).length = (r.length + 1) / 2 := by
  have e1 : sliceBounds (some 0) none (some 2) r.length = (0, (r.length : Int), 2) := by simp [sliceBounds]; omega
  unfold pickV
  rw [e1]
  unfold sliceRange
  have e2 : (if (2 : Int) > 0 then (if (0 : Int) < r.length then ((r.length : Int) - 0 + 2 - 1) / 2 else 0) else (if (0 : Int) > r.length then (0 - (r.length : Int) - 2 - 1) / (-2) else 0)).toNat = (r.length + 1) / 2 := by
    rw [if_pos (by decide)]; split <;> omega
  show (List.filterMap _ (List.map _ (List.range (Int.toNat _)))).length = _
  rw [e2]
  exact fm_len r _ (fun k => ((0 : Int) + 2 * (k : Int)).toNat) (fun k hk => by omega)
theorem pick_ods (r : List Int) : (pickV r (some 1) none (some 2)).length = r.length / 2 := by
  have e1 : sliceBounds (some 1) none (some 2) r.length = (min 1 (r.length : Int), (r.length : Int), 2) := by simp [sliceBounds]; omega
  unfold pickV
  rw [e1]
  unfold sliceRange
  have e2 : (if (2 : Int) > 0 then (if min 1 (r.length : Int) < r.length then ((r.length : Int) - min 1 (r.length : Int) + 2 - 1) / 2 else 0) else (if min 1 (r.length : Int) > r.length then (min 1 (r.length : Int) - (r.length : Int) - 2 - 1) / (-2) else 0)).toNat = r.length / 2 := by
    rw [if_pos (by decide)]; split <;> omega
  show (List.filterMap _ (List.map _ (List.range (Int.toNat _)))).length = _
  rw [e2]
  exact fm_len r _ (fun k => (min 1 (r.length : Int) + 2 * (k : Int)).toNat) (fun k hk => by omega)
theorem forward_spec {C : Cx} {A : Around} {σ τ : AH} {E : EX} {Q : V → AH → Prop} {vr : V} {row : List Int} (c : Law C) (rm : Room A 3) (sh : Sh τ σ)
    (orow : Rd C τ vr (rowI row)) (lr : row.length ≤ 100)
    (hq : ∀ v J a b, a.length = (row.length + 1) / 2 → b.length = row.length / 2 → Rd C (τ ++ J) v (.tuple [rowI a, rowI b]) → Q v (σ ++ J)) :
    WC C A (.ref 130) [vr, .str (Str.ofString "five"), .str (Str.ofString "edge")] σ Q E := by
  refine WC_def (pn := [Str.ofString "row", Str.ofString "kind", Str.ofString "border"]) (ln := [Str.ofString "even", Str.ofString "odd", Str.ofString "step"]) (gl := [(Str.ofString "need_kind", Value.ref 102), (Str.ofString "need_border", Value.ref 109), (Str.ofString "list", Value.type "list"), (Str.ofString "STEPS", Value.ref 42), (Str.ofString "_turn", Value.ref 123)]) (dv := []) (ds := []) (c.K _ _ rfl) rfl (codeRec_of c.K (by kernel_rfl)) (by first | exact Room.dep0 (by assumption) | assumption | omega | exact Nat.le_of_ble_eq_true rfl) .nil rfl (fun x v h => c.glo x v ((show ∀ p ∈ ([(Str.ofString "need_kind", Value.ref 102), (Str.ofString "need_border", Value.ref 109), (Str.ofString "list", Value.type "list"), (Str.ofString "STEPS", Value.ref 42), (Str.ofString "_turn", Value.ref 123)] : List (Str × Value)), p ∈ lawGlo by decide +kernel) (x, v) h)) ?_ (by decide +kernel) (by decide +kernel) (by decide +kernel) (by decide +kernel) ?_
  · intro s xs hkp hl
    obtain ⟨x0, x1, x2, rfl⟩ := len3 hl
    first | exact BindsTo.of_eq rfl | exact BindsTo.of_defaults rfl (hkp _ _ (c.K _ _ rfl)) rfl rfl rfl
  intro env henv
  replace c := c.wg [(Str.ofString "need_kind", Value.ref 102), (Str.ofString "need_border", Value.ref 109), (Str.ofString "list", Value.type "list"), (Str.ofString "STEPS", Value.ref 42), (Str.ofString "_turn", Value.ref 123)]
  show WSs (C.wg [(Str.ofString "need_kind", Value.ref 102), (Str.ofString "need_border", Value.ref 109), (Str.ofString "list", Value.type "list"), (Str.ofString "STEPS", Value.ref 42), (Str.ofString "_turn", Value.ref 123)]) _ _ _ [(Str.ofString "row", some (vr)), (Str.ofString "kind", some (.str (Str.ofString "five"))), (Str.ofString "border", some (.str (Str.ofString "edge"))), (Str.ofString "even", none), (Str.ofString "odd", none), (Str.ofString "step", none)] _ _ _
  have rm := rm.deep (env := env)
  have orow' := orow.rowI_inv.shl sh
  walk_at "xx"
  refine WE_call (by walk_at "mem") c.c102 ?_
  walk_at "xx"
  refine need_kind_spec c rm.le ?_
  walk_at "xx"
  refine WE_call (by walk_at "mem") c.c109 ?_
  walk_at "xx"
  refine need_border_spec c rm.le ?_
  walk_at "xx"
  refine WE_call (by walk_at "mem") callable_type ?_
  refine WL_cons ?_
  refine WE_slice ?_
  walk_at "xx"
  refine ⟨_, orow', by decide, by simp [sizeLine]; omega, ?_⟩
  have le := pick_evs row
  have lo := pick_ods row
  rw [pick_map]
  generalize pickV row (some 0) none (some 2) = ev at *
  walk_at "xx"
  refine WC_list (.new rfl) (by simp [sizeLine]; omega) ?_
  walk_at "xx"
  refine WE_call (by walk_at "mem") callable_type ?_
  refine WL_cons ?_
  refine WE_slice ?_
  walk_at "xx"
  refine ⟨_, orow'.up.up, by decide, by simp [sizeLine]; omega, ?_⟩
  rw [pick_map]
  generalize pickV row (some 1) none (some 2) = ov at *
  walk_at "xx"
  refine WC_list (.new rfl) (by simp [sizeLine]; omega) ?_
  walk_at "xx"
  refine WS_for (WItr_of ?_)
  walk_at "xx"
  refine WE_glob (by walk_at "mem") ?_
  walk_at "xx"
  refine kind_item c ?_
  have hsl : ObjAt _ [] (.k (.ref 58)) (.list [.k (.ref 53), .k (.ref 57)]) := c.m 8 rfl
  refine ⟨_, _, _, Itb_list rm.han hsl.glob, ?_⟩
  refine ⟨fun i ρ' σ' => ∃ J ve vo a b ts, σ' = σ ++ J ∧ ρ' = ([(Str.ofString "row", some vr), (Str.ofString "kind", some (V.str (Str.ofString "five"))), (Str.ofString "border", some (V.str (Str.ofString "edge"))), (Str.ofString "even", some ve), (Str.ofString "odd", some vo), (Str.ofString "step", ts)] : Loc) ∧ a.length = (row.length + 1) / 2 ∧ b.length = row.length / 2 ∧ Rd C (τ ++ J) ve (rowI a) ∧ Rd C (τ ++ J) vo (rowI b), ?_, ?_, ?_⟩
  · refine ⟨[O.list (ev.map .int), .list (ev.map .int), .list (ov.map .int), .list (ov.map .int)], _, _, ev, ov, _, by simp, rfl, le, lo, Rd.lst ?_, Rd.lst ?_⟩
    · show (τ ++ _)[_]? = _
      simp [← sh.len]
    · show (τ ++ _)[_]? = _
      simp [← sh.len]
  · rintro i ρ' σ' hi ⟨J, ve, vo, a, b, ts, rfl, rfl, la, lb, oe, oo⟩
    refine ⟨hsl.glob, ?_⟩
    have hi2 : i = 0 ∨ i = 1 := by have : i < 2 := hi; omega
    rcases hi2 with rfl | rfl
    · show WAs _ _ _ _ (.k (.ref 53)) _ _ _ _
      walk_at "xx"
      obtain ⟨rv, add, shf, rs, hst0, _⟩ := (stepA c).ex
      refine item_tuple hst0.glob (by decide) (by decide) rfl ?_
      walk_at "xx"
      refine WE_call (by walk_at "mem") c.c123 ?_
      walk_at "xx"
      refine item_tuple hst0.glob (by decide) (by decide) rfl ?_
      walk_at "xx"
      refine turn_spec (hs := b) (os := a) c rm.le (sh.app J) (stepA c) (by decide) oo.wg oe.wg (by omega) (by omega) ?_
      intro v J' r hr hv
      walk_at "xx"
      refine ⟨J ++ J', ve, v, a, r, _, by simp, rfl, la, by omega, ?_, ?_⟩
      · rw [← List.append_assoc]; exact oe.up
      · rw [← List.append_assoc]; exact hv.gw
    · show WAs _ _ _ _ (.k (.ref 57)) _ _ _ _
      walk_at "xx"
      obtain ⟨rv, add, shf, rs, hst0, _⟩ := (stepB c).ex
      refine item_tuple hst0.glob (by decide) (by decide) rfl ?_
      walk_at "xx"
      refine WE_call (by walk_at "mem") c.c123 ?_
      walk_at "xx"
      refine item_tuple hst0.glob (by decide) (by decide) rfl ?_
      walk_at "xx"
      refine turn_spec (hs := a) (os := b) c rm.le (sh.app J) (stepB c) (by decide) oe.wg oo.wg (by omega) (by omega) ?_
      intro v J' r hr hv
      walk_at "xx"
      refine ⟨J ++ J', v, vo, r, b, _, by simp, rfl, by omega, lb, ?_, ?_⟩
      · rw [← List.append_assoc]; exact hv.gw
      · rw [← List.append_assoc]; exact oo.up
  · rintro ρ' σ' ⟨J, ve, vo, a, b, ts, rfl, rfl, la, lb, oe, oo⟩
    refine ⟨hsl.glob, ?_⟩
    walk_at "xx"
    have := hq (.ref (σ ++ J).length) (J ++ [O.tuple [ve, vo]]) a b la lb
    rw [← List.append_assoc, ← List.append_assoc] at this
    exact this (.tuple (.new (sh.app J).len.symm) (.cons oe.up (.cons oo.up .nil)))
theorem fdiv2 (n : Nat) : ((n : Int)).fdiv 2 = ((n / 2 : Nat) : Int) := by rw [Int.fdiv_eq_ediv_of_nonneg _ (by decide)]; omega
theorem fdiv2' (n : Nat) : ((n : Int) + 1).fdiv 2 = (((n + 1) / 2 : Nat) : Int) := by rw [Int.fdiv_eq_ediv_of_nonneg _ (by decide)]; omega
theorem turned_spec {C : Cx} {A : Around} {σ τ : AH} {E : EX} {Q : V → AH → Prop} {vr : V} {M : List (List Int)} {w : Nat} (c : Law C) (rm : Room A 1) (sh : Sh τ σ) (om : Rd C τ vr (matD M)) (h1 : 1 ≤ M.length) (h2 : M.length ≤ 100) (hw : ∀ r ∈ M, r.length = w) (hw2 : w ≤ 100)
    (hq : ∀ v J M', M'.length = w → (∀ r ∈ M', r.length = M.length) → Rd C (τ ++ J) v (matD M') → Q v (σ ++ J)) : WC C A (.ref 135) [vr] σ Q E := by
  refine WC_def (pn := [Str.ofString "rows"]) (ln := []) (gl := [(Str.ofString "len", Value.builtin "len"), (Str.ofString "range", Value.type "range")]) (dv := []) (ds := []) (c.K _ _ rfl) rfl (codeRec_of c.K (by kernel_rfl)) (by first | exact Room.dep0 (by assumption) | assumption | omega | exact Nat.le_of_ble_eq_true rfl) .nil rfl (fun x v h => c.glo x v ((show ∀ p ∈ ([(Str.ofString "len", Value.builtin "len"), (Str.ofString "range", Value.type "range")] : List (Str × Value)), p ∈ lawGlo by decide +kernel) (x, v) h)) ?_ (by decide +kernel) (by decide +kernel) (by decide +kernel) (by decide +kernel) ?_
  · intro s xs hkp hl
    obtain ⟨x0, rfl⟩ := len1 hl
    first | exact BindsTo.of_eq rfl | exact BindsTo.of_defaults rfl (hkp _ _ (c.K _ _ rfl)) rfl rfl rfl
  intro env henv
  replace c := c.wg [(Str.ofString "len", Value.builtin "len"), (Str.ofString "range", Value.type "range")]
  show WSs (C.wg [(Str.ofString "len", Value.builtin "len"), (Str.ofString "range", Value.type "range")]) _ _ _ [(Str.ofString "rows", some (vr))] _ _ _
  have rm := rm.deep (env := env)
  obtain ⟨xs, ox, lx, hx⟩ := om.mat
  have ox' := ox.shl sh
  have zM : M.length ≤ 100000 := Nat.le_trans h2 (Nat.le_of_ble_eq_true rfl)
  have zw : w ≤ 100000 := Nat.le_trans hw2 (Nat.le_of_ble_eq_true rfl)
  walk_at "xx"
  refine WE_call (C := C) (by walk_at "mem") callable_builtin ?_
  walk_at "xx"
  refine WC_lenE ox' lx zM ?_
  walk_at "xx"
  refine ite_f (beq_eq_false_iff_ne.mpr (by omega)) ?_
  walk_at "xx"
  refine WE_ListCompC (C := C) (l2 := []) (capt := [(Str.ofString "rows", some vr)]) henv (by show compOkC _ _ _ [Str.ofString "rows"] [] = true; decide +kernel) (by simp) (by intro p hp; rw [List.mem_singleton.mp hp]; walk_at "mem") (by simp) ?_
  refine WItr_rng rm.han (by walk_at "mem") ?_
  walk_at "xx"
  refine WE_call (C := C) (by walk_at "mem") callable_builtin ?_
  walk_at "xx"
  obtain ⟨x0, hx0, r0⟩ := hx 0 M[0] (by simp [h1])
  refine item_list ox' (by decide) (by decide) hx0 ?_
  walk_at "xx"
  have l0 : (M[0]).length = w := hw _ (List.getElem_mem _)
  refine WC_lenI (r0.rowI_inv.shl sh) l0 zw ?_
  walk_at "xx"
  refine exRng zw ?_
  refine CompGo_shadow τ (fun _ d => ∃ r : List Int, d = rowI r ∧ r.length = M.length) (sz_le (Nat.le_refl _) zw) (fun _ => trivial) ?_ ?_
  · rintro i pv J hi rfl cenv hc
    refine WE_ListComp2 (C := C) (l2 := []) (capt := [(Str.ofString "k", some (.int i))]) hc (by show compOk _ _ _ [Str.ofString "k"] [] = true; decide +kernel) (by simp) (by intro p hp; rw [List.mem_singleton.mp hp]; walk_at "mem") (by simp) ?_
    refine WItr_of ?_
    walk_at "xx"
    refine ⟨_, _, _, Itb_list rm.han ox'.up, ?_⟩
    refine CompGo_ints (f := fun j => (M.getD j []).getD i 0) (sz_le (Nat.le_of_eq lx) zM) ox'.up ?_ ?_
    · rintro j pv hj hp cenv _
      obtain ⟨xj, hxj, rj⟩ := hx j (M.getD j []) (by rw [lx] at hj; simp [List.getD, hj])
      have epv : xj = pv := by rw [← hp, List.getD, hxj]; rfl
      subst epv
      have lj : (M.getD j []).length = w := by
        rw [lx] at hj
        rw [List.getD, List.getElem?_eq_getElem hj]
        exact hw _ (List.getElem_mem hj)
      walk_at "xx"
      refine item_intN (rj.rowI_inv.shl sh).up (by rw [lj]; exact zw) (by rw [lj]; exact hi) ?_
      exact ⟨rfl, rfl⟩
    refine ⟨[O.list (((List.range xs.length).map fun j => (M.getD j []).getD i 0).map .int)], _, rfl, ⟨_, rfl, by simp [lx]⟩, Rd.lst (.new (sh.app J).len.symm)⟩
  · intro J acc ds hr hl hR
    obtain ⟨M', e, hl', hM'⟩ := ex_rows hR
    have := hq (.ref (σ ++ J).length) (J ++ [O.list acc]) M' (hl'.trans hl) hM'
    rw [← List.append_assoc, ← List.append_assoc] at this
    walk_at "xx"
    refine this ?_
    rw [← e]
    exact .list (.new (sh.app J).len.symm) hr.up
theorem part_rows_spec {C : Cx} {A : Around} {σ τ : AH} {E : EX} {Q : V → AH → Prop} {vr : V} {M : List (List Int)} {w : Nat} (c : Law C) (rm : Room A 4) (sh : Sh τ σ) (om : Rd C τ vr (matD M)) (h2 : M.length ≤ 100) (hw : ∀ r ∈ M, r.length = w) (hw2 : w ≤ 100)
    (hq : ∀ v J M1 M2, M1.length = M.length → M2.length = M.length → (∀ r ∈ M1, r.length = (w + 1) / 2) → (∀ r ∈ M2, r.length = w / 2) → Rd C (τ ++ J) v (.tuple [matD M1, matD M2]) → Q v (σ ++ J)) : WC C A (.ref 140) [vr, .str (Str.ofString "five"), .str (Str.ofString "edge")] σ Q E := by
  refine WC_def (pn := [Str.ofString "rows", Str.ofString "kind", Str.ofString "border"]) (ln := [Str.ofString "pairs"]) (gl := []) (dv := []) (ds := []) (c.K _ _ rfl) rfl (codeRec_of c.K (by kernel_rfl)) (by first | exact Room.dep0 (by assumption) | assumption | omega | exact Nat.le_of_ble_eq_true rfl) .nil rfl (fun x v h => c.glo x v ((show ∀ p ∈ ([] : List (Str × Value)), p ∈ lawGlo by decide +kernel) (x, v) h)) ?_ (by decide +kernel) (by decide +kernel) (by decide +kernel) (by decide +kernel) ?_
  · intro s xs hkp hl
    obtain ⟨x0, x1, x2, rfl⟩ := len3 hl
    first | exact BindsTo.of_eq rfl | exact BindsTo.of_defaults rfl (hkp _ _ (c.K _ _ rfl)) rfl rfl rfl
  intro env henv
  replace c := c.wg []
  show WSs (C.wg []) _ _ _ [(Str.ofString "rows", some (vr)), (Str.ofString "kind", some (.str (Str.ofString "five"))), (Str.ofString "border", some (.str (Str.ofString "edge"))), (Str.ofString "pairs", none)] _ _ _
  have rm := rm.deep (env := env)
  obtain ⟨xs, ox, lx, hx⟩ := om.mat
  have ox' := ox.shl sh
  have zM : M.length ≤ 100000 := Nat.le_trans h2 (Nat.le_of_ble_eq_true rfl)
  have zw : w ≤ 100000 := Nat.le_trans hw2 (Nat.le_of_ble_eq_true rfl)
  refine WSs_cons ?_
  refine WS_assign_comp2 (C := C) (l2 := [(Str.ofString "forward_steps", Value.ref 130)]) (capt := [(Str.ofString "kind", some (.str (Str.ofString "five"))), (Str.ofString "border", some (.str (Str.ofString "edge")))]) henv
    (by show compOk _ _ _ [Str.ofString "kind", Str.ofString "border"] [Str.ofString "forward_steps"] = true; decide +kernel) (by show [Str.ofString "kind", Str.ofString "border"].Nodup; decide +kernel) (by
      intro p hp
      simp only [List.mem_cons, List.not_mem_nil, or_false] at hp
      rcases hp with rfl | rfl <;> walk_at "mem") (by intro p hp; rw [List.mem_singleton.mp hp]; exact .inr (c.glo _ _ (by decide +kernel))) ?_
  refine WItr_of ?_
  walk_at "xx"
  refine ⟨_, _, _, Itb_list rm.han ox', ?_⟩
  refine CompGo_shadow τ (fun _ d => ∃ a b : List Int, d = .tuple [rowI a, rowI b] ∧ a.length = (w + 1) / 2 ∧ b.length = w / 2) (sz_le (Nat.le_of_eq lx) zM) (fun _ => ox'.up) ?_ ?_
  · rintro i pv J hi hp cenv hc
    obtain ⟨xj, hxj, rj⟩ := hx i (M.getD i []) (by rw [lx] at hi; simp [List.getD, hi])
    have epv : xj = pv := by rw [← hp, List.getD, hxj]; rfl
    subst epv
    have lj : (M.getD i []).length = w := by
      rw [lx] at hi
      rw [List.getD, List.getElem?_eq_getElem hi]
      exact hw _ (List.getElem_mem hi)
    refine WE_call (C := C) (by walk_at "mem") c.c130 ?_
    walk_at "xx"
    refine forward_spec (c.wg _) rm.le (sh.app J) rj.up.wg (by rw [lj]; exact hw2) ?_
    intro v J' a b la lb hv
    exact ⟨J', _, rfl, ⟨a, b, rfl, by rw [la, lj], by rw [lb, lj]⟩, hv.gw⟩
  · intro J acc ds hr hl hR
    refine ⟨_, by walk_at "up", ?_⟩
    have oa : ∀ J', ObjAt C (σ ++ J ++ [O.list acc] ++ J') (.ref (σ ++ J).length) (.list acc) := fun J' => ObjAt.up (ObjAt.new rfl)
    have la : acc.length = ds.length := hr.len
    have za : acc.length ≤ sizeLine := sz_le (Nat.le_of_eq (la.trans (hl.trans lx))) zM
    have hel : ∀ (i : Nat) v, acc[i]? = some v → ∃ x y a b, ObjAt C (τ ++ J) v (.tuple [x, y]) ∧ Rd C (τ ++ J) x (rowI a) ∧ Rd C (τ ++ J) y (rowI b) ∧ a.length = (w + 1) / 2 ∧ b.length = w / 2 := by
      intro i v e
      have hi : i < ds.length := by rw [← la]; exact (List.getElem?_eq_some_iff.mp e).1
      obtain ⟨v', hv', rv'⟩ := hr.get (i := i) (d := ds[i]) (by simp [hi])
      rw [e] at hv'; cases hv'
      obtain ⟨a, b, ed, l1, l2⟩ := hR i ds[i] (by simp [hi])
      rw [ed] at rv'
      obtain ⟨zs, o, r⟩ := rv'.tuple_inv
      obtain ⟨x, y, rfl, hx, hy⟩ := r.inv2
      exact ⟨x, y, a, b, o, hx, hy, l1, l2⟩
    walk_at "xx"
    refine WE_ListComp2 (C := C) (l2 := []) (capt := []) henv (by show compOk _ _ _ [] [] = true; decide +kernel) (by simp) (by simp) (by simp) ?_
    refine WItr_of ?_
    walk_at "xx"
    refine ⟨_, _, _, Itb_list rm.han (by have := oa []; rwa [List.append_nil] at this), ?_⟩
    refine CompGo_shadow (τ ++ J ++ [O.list acc]) (fun _ d => ∃ r : List Int, d = rowI r ∧ r.length = (w + 1) / 2) za (fun _ => oa _) ?_ ?_
    · rintro i pv J' hi hp cenv hc
      obtain ⟨x, y, a, b, o, rx, ry, l1, l2⟩ := hel i pv (by rw [← hp, List.getD, List.getElem?_eq_getElem hi]; rfl)
      walk_at "xx"
      refine item_tuple ((o.sht (sh.app J)).up.up) (by decide) (by decide) rfl ?_
      exact ⟨[], _, by simp, ⟨a, rfl, l1⟩, by rw [List.append_nil]; exact rx.up.up⟩
    intro J1 acc1 ds1 hr1 hl1 hR1
    obtain ⟨M1, e1, hl1', hM1⟩ := ex_rows hR1
    walk_at "xx"
    refine WE_ListComp2 (C := C) (l2 := []) (capt := []) henv (by show compOk _ _ _ [] [] = true; decide +kernel) (by simp) (by simp) (by simp) ?_
    refine WItr_of ?_
    walk_at "xx"
    refine ⟨_, _, _, Itb_list rm.han (by have := oa (J1 ++ [O.list acc1]); rwa [← List.append_assoc] at this), ?_⟩
    refine CompGo_shadow (τ ++ J ++ [O.list acc] ++ J1 ++ [O.list acc1]) (fun _ d => ∃ r : List Int, d = rowI r ∧ r.length = w / 2) za (fun J' => by have := oa (J1 ++ [O.list acc1] ++ J'); rwa [← List.append_assoc, ← List.append_assoc] at this) ?_ ?_
    · rintro i pv J' hi hp cenv hc
      obtain ⟨x, y, a, b, o, rx, ry, l1, l2⟩ := hel i pv (by rw [← hp, List.getD, List.getElem?_eq_getElem hi]; rfl)
      walk_at "xx"
      refine item_tuple ((o.sht (sh.app J)).up.up.up.up) (by decide) (by decide) rfl ?_
      exact ⟨[], _, by simp, ⟨b, rfl, l2⟩, by rw [List.append_nil]; exact ry.up.up.up.up⟩
    intro J2 acc2 ds2 hr2 hl2 hR2
    obtain ⟨M2, e2, hl2', hM2⟩ := ex_rows hR2
    walk_at "xx"
    have sh5 := ((((sh.app J).app [O.list acc]).app J1).app [O.list acc1]).app J2
    have s4 := ((sh.app J).app [O.list acc]).app J1
    have s6 := sh5.app [O.list acc2]
    have := hq (.ref (σ ++ J ++ [O.list acc] ++ J1 ++ [O.list acc1] ++ J2 ++ [O.list acc2]).length) (J ++ [O.list acc] ++ J1 ++ [O.list acc1] ++ J2 ++ [O.list acc2] ++ [O.tuple [.ref (σ ++ J ++ [O.list acc] ++ J1).length, .ref (σ ++ J ++ [O.list acc] ++ J1 ++ [O.list acc1] ++ J2).length]]) M1 M2 (hl1'.trans (hl1.trans (la.trans (hl.trans lx)))) (hl2'.trans (hl2.trans (la.trans (hl.trans lx)))) hM1 hM2
    simp only [← List.append_assoc] at this
    refine this (.tuple (.new s6.len.symm) (.cons ?_ (.cons ?_ .nil)))
    · rw [← e1]; exact .list (.up (.up (.up (.new s4.len.symm)))) hr1.up.up.up.up
    · rw [← e2]; exact .list (.up (.new sh5.len.symm)) hr2.up.up
theorem part_columns_spec {C : Cx} {A : Around} {σ τ : AH} {E : EX} {Q : V → AH → Prop} {vr : V} {M : List (List Int)} {w : Nat} (c : Law C) (rm : Room A 5) (sh : Sh τ σ) (om : Rd C τ vr (matD M)) (h1 : 1 ≤ M.length) (h2 : M.length ≤ 100) (hw : ∀ r ∈ M, r.length = w) (hw2 : w ≤ 100)
    (hq : ∀ v J M1 M2, M1.length = (M.length + 1) / 2 → M2.length = M.length / 2 → (∀ r ∈ M1, r.length = w) → (∀ r ∈ M2, r.length = w) → Rd C (τ ++ J) v (.tuple [matD M1, matD M2]) → Q v (σ ++ J)) : WC C A (.ref 145) [vr, .str (Str.ofString "five"), .str (Str.ofString "edge")] σ Q E := by
  refine WC_def (pn := [Str.ofString "rows", Str.ofString "kind", Str.ofString "border"]) (ln := [Str.ofString "count", Str.ofString "low", Str.ofString "high", Str.ofString "upper", Str.ofString "lower"]) (gl := [(Str.ofString "len", Value.builtin "len"), (Str.ofString "range", Value.type "range"), (Str.ofString "part_rows", Value.ref 140), (Str.ofString "turned", Value.ref 135)]) (dv := []) (ds := []) (c.K _ _ rfl) rfl (codeRec_of c.K (by kernel_rfl)) (by first | exact Room.dep0 (by assumption) | assumption | omega | exact Nat.le_of_ble_eq_true rfl) .nil rfl (fun x v h => c.glo x v ((show ∀ p ∈ ([(Str.ofString "len", Value.builtin "len"), (Str.ofString "range", Value.type "range"), (Str.ofString "part_rows", Value.ref 140), (Str.ofString "turned", Value.ref 135)] : List (Str × Value)), p ∈ lawGlo by decide +kernel) (x, v) h)) ?_ (by decide +kernel) (by decide +kernel) (by decide +kernel) (by decide +kernel) ?_
  · intro s xs hkp hl
    obtain ⟨x0, x1, x2, rfl⟩ := len3 hl
    first | exact BindsTo.of_eq rfl | exact BindsTo.of_defaults rfl (hkp _ _ (c.K _ _ rfl)) rfl rfl rfl
  intro env henv
  replace c := c.wg [(Str.ofString "len", Value.builtin "len"), (Str.ofString "range", Value.type "range"), (Str.ofString "part_rows", Value.ref 140), (Str.ofString "turned", Value.ref 135)]
  show WSs (C.wg [(Str.ofString "len", Value.builtin "len"), (Str.ofString "range", Value.type "range"), (Str.ofString "part_rows", Value.ref 140), (Str.ofString "turned", Value.ref 135)]) _ _ _ [(Str.ofString "rows", some (vr)), (Str.ofString "kind", some (.str (Str.ofString "five"))), (Str.ofString "border", some (.str (Str.ofString "edge"))), (Str.ofString "count", none), (Str.ofString "low", none), (Str.ofString "high", none), (Str.ofString "upper", none), (Str.ofString "lower", none)] _ _ _
  have rm := rm.deep (env := env)
  obtain ⟨xs, ox, lx, hx⟩ := om.mat
  have ox' := ox.shl sh
  have zM : M.length ≤ 100000 := Nat.le_trans h2 (Nat.le_of_ble_eq_true rfl)
  have zw : w ≤ 100000 := Nat.le_trans hw2 (Nat.le_of_ble_eq_true rfl)
  walk_at "xx"
  refine WE_call (C := C) (by walk_at "mem") callable_builtin ?_
  walk_at "xx"
  refine WC_lenE ox' lx zM ?_
  walk_at "xx"
  refine WE_call (C := C) (by walk_at "mem") callable_builtin ?_
  walk_at "xx"
  obtain ⟨x0, hx0, r0⟩ := hx 0 M[0] (by simp [h1])
  refine item_list ox' (by decide) (by decide) hx0 ?_
  walk_at "xx"
  have l0 : (M[0]).length = w := hw _ (List.getElem_mem _)
  refine WC_lenI (r0.rowI_inv.shl sh) l0 zw ?_
  walk_at "xx"
  refine ite_b (fun hb => ?_) fun hb => ?_
  · have hw0 : w = 0 := by have := eq_of_beq hb; omega
    walk_at "xx"
    refine WE_ListComp2 (C := C) (l2 := []) (capt := []) henv (by show compOk _ _ _ [] [] = true; decide +kernel) (by simp) (by simp) (by simp) ?_
    refine WItr_rng rm.han (by walk_at "mem") ?_
    walk_at "xx"
    rw [fdiv2']
    have zh : (M.length + 1) / 2 ≤ 100000 := by omega
    refine exRng zh ?_
    refine CompGo_shadow τ (fun _ d => ∃ r : List Int, d = rowI r ∧ r.length = w) (sz_le (Nat.le_refl _) zh) (fun _ => trivial) ?_ ?_
    · rintro i pv J hi rfl cenv hc
      walk_at "xx"
      exact ⟨[O.list []], _, rfl, ⟨[], rfl, hw0.symm⟩, Rd.lst (.new (sh.app J).len.symm)⟩
    intro J1 acc1 ds1 hr1 hl1 hR1
    obtain ⟨M1, e1, hl1', hM1⟩ := ex_rows hR1
    walk_at "xx"
    refine WE_ListComp2 (C := C) (l2 := []) (capt := []) henv (by show compOk _ _ _ [] [] = true; decide +kernel) (by simp) (by simp) (by simp) ?_
    refine WItr_rng rm.han (by walk_at "mem") ?_
    walk_at "xx"
    rw [fdiv2]
    have zh2 : M.length / 2 ≤ 100000 := Nat.le_trans (Nat.div_le_self _ _) zM
    refine exRng zh2 ?_
    have sh2 := (sh.app J1).app [O.list acc1]
    refine CompGo_shadow (τ ++ J1 ++ [O.list acc1]) (fun _ d => ∃ r : List Int, d = rowI r ∧ r.length = w) (sz_le (Nat.le_refl _) zh2) (fun _ => trivial) ?_ ?_
    · rintro i pv J hi rfl cenv hc
      walk_at "xx"
      exact ⟨[O.list []], _, rfl, ⟨[], rfl, hw0.symm⟩, Rd.lst (.new (sh2.app J).len.symm)⟩
    intro J2 acc2 ds2 hr2 hl2 hR2
    obtain ⟨M2, e2, hl2', hM2⟩ := ex_rows hR2
    walk_at "xx"
    have sh3 := sh2.app J2
    have s6 := sh3.app [O.list acc2]
    have := hq (.ref (σ ++ J1 ++ [O.list acc1] ++ J2 ++ [O.list acc2]).length) (J1 ++ [O.list acc1] ++ J2 ++ [O.list acc2] ++ [O.tuple [.ref (σ ++ J1).length, .ref (σ ++ J1 ++ [O.list acc1] ++ J2).length]]) M1 M2 (hl1'.trans hl1) (hl2'.trans hl2) hM1 hM2
    simp only [← List.append_assoc] at this
    refine this (.tuple (.new s6.len.symm) (.cons ?_ (.cons ?_ .nil)))
    · rw [← e1]; exact .list (.up (.up (.up (.new (sh.app J1).len.symm)))) hr1.up.up.up.up
    · rw [← e2]; exact .list (.up (.new sh3.len.symm)) hr2.up.up
  · have hw1 : 1 ≤ w := by
      rcases Nat.eq_zero_or_pos w with h | h
      · rw [h] at hb; cases hb
      · exact h
    walk_at "xx"
    refine WE_call (C := C) (by walk_at "mem") c.c140 ?_
    walk_at "xx"
    refine WE_call (C := C) (by walk_at "mem") c.c135 ?_
    walk_at "xx"
    refine turned_spec c rm.le sh om.wg h1 h2 hw hw2 fun v J T lT hT rT => ?_
    walk_at "xx"
    refine part_rows_spec c rm.le (sh.app J) rT (by rw [lT]; exact hw2) hT h2 fun v2 J2 M1 M2 l1 l2 w1 w2 r2 => ?_
    obtain ⟨zs, o, r⟩ := r2.tuple_inv
    obtain ⟨x, y, rfl, rx, ry⟩ := r.inv2
    have sh2 := (sh.app J).app J2
    refine WAs_tuple rm.han (o.sht sh2) ?_
    walk_at "xx"
    refine WE_call (C := C) (by walk_at "mem") c.c135 ?_
    walk_at "xx"
    refine turned_spec c rm.le sh2 rx (by rw [l1, lT]; exact hw1) (by rw [l1, lT]; exact hw2) w1 (by omega) fun v3 J3 U lU hU rU => ?_
    walk_at "xx"
    refine WE_call (C := C) (by walk_at "mem") c.c135 ?_
    walk_at "xx"
    refine turned_spec c rm.le (sh2.app J3) ry.up (by rw [l2, lT]; exact hw1) (by rw [l2, lT]; exact hw2) w2 (Nat.le_trans (Nat.div_le_self _ _) h2) fun v4 J4 D lD hD rD => ?_
    walk_at "xx"
    have sh4 := (sh2.app J3).app J4
    have := hq (.ref (σ ++ J ++ J2 ++ J3 ++ J4).length) (J ++ J2 ++ J3 ++ J4 ++ [O.tuple [v3, v4]]) U D lU lD (fun r hr => by rw [hU r hr, l1, lT]) (fun r hr => by rw [hD r hr, l2, lT])
    simp only [← List.append_assoc] at this
    exact this (.tuple (.new sh4.len.symm) (.cons rU.gw.up.up (.cons rD.gw.up .nil)))
theorem gl_up {σ J : AH} {i : Nat} {o : O} (h : σ[i]? = some o) : (σ ++ J)[i]? = some o := by
  rw [List.getElem?_append_left (List.getElem?_eq_some_iff.mp h).1]; exact h
theorem set_midE {σ J X : AH} {o o' : O} {n : Nat} (e : n = σ.length) (h : X = σ ++ [o] ++ J) : X.set n o' = σ ++ [o'] ++ J := by rw [h, set_mid e]
noncomputable def pD (p : Nat × Nat) : PyData := .tuple [.int p.1, .int p.2]
noncomputable def bD (W H l : Nat) : PyData := .tuple [pD (bsh W H l 0), pD (bsh W H l 1), pD (bsh W H l 2)]
noncomputable def shD (W H L : Nat) : PyData := .tuple [pD (half W L, half H L), .list ((List.range L).map (bD W H))]
theorem rd_pair {C : Cx} {σ : AH} {v : V} {i j : Nat} (o : ObjAt C σ v (.tuple [.int i, .int j])) : Rd C σ v (pD (i, j)) := .tuple o (.cons .int (.cons .int .nil))
theorem shapes_spec {C : Cx} {A : Around} {σ τ : AH} {E : EX} {Q : V → AH → Prop} {W H L : Nat} (c : Law C) (rm : Room A 1) (hL : L ≤ 10) (sh : Sh τ σ)
    (hq : ∀ v J, Rd C (τ ++ J) v (shD W H L) → Q v (σ ++ J)) : WC C A (.ref 157) [.int W, .int H, .int L] σ Q E := by
  refine WC_def (pn := [Str.ofString "width", Str.ofString "height", Str.ofString "levels"]) (ln := [Str.ofString "bands", Str.ofString "level", Str.ofString "wide", Str.ofString "high"]) (gl := [(Str.ofString "range", Value.type "range")]) (dv := []) (ds := []) (c.K _ _ rfl) rfl (codeRec_of c.K (by kernel_rfl)) (by first | exact Room.dep0 (by assumption) | assumption | omega | exact Nat.le_of_ble_eq_true rfl) .nil rfl (fun x v h => c.glo x v ((show ∀ p ∈ ([(Str.ofString "range", Value.type "range")] : List (Str × Value)), p ∈ lawGlo by decide +kernel) (x, v) h)) ?_ (by decide +kernel) (by decide +kernel) (by decide +kernel) (by decide +kernel) ?_
  · intro s xs hkp hl
    obtain ⟨x0, x1, x2, rfl⟩ := len3 hl
    first | exact BindsTo.of_eq rfl | exact BindsTo.of_defaults rfl (hkp _ _ (c.K _ _ rfl)) rfl rfl rfl
  intro env henv
  replace c := c.wg [(Str.ofString "range", Value.type "range")]
  show WSs (C.wg [(Str.ofString "range", Value.type "range")]) _ _ _ [(Str.ofString "width", some (.int W)), (Str.ofString "height", some (.int H)), (Str.ofString "levels", some (.int L)), (Str.ofString "bands", none), (Str.ofString "level", none), (Str.ofString "wide", none), (Str.ofString "high", none)] _ _ _
  have rm := rm.deep (env := env)
  walk_at "xx"
  refine WS_for (WItr_rng rm.han (by walk_at "mem") ?_)
  walk_at "xx"
  refine exRng (Nat.le_trans hL (Nat.le_of_ble_eq_true rfl)) ?_
  refine ⟨fun i ρ' σ' => ∃ J acc t1 t2 t3, σ' = σ ++ [O.list acc] ++ J ∧ ρ' = ([(Str.ofString "width", some (.int (half W i))), (Str.ofString "height", some (.int (half H i))), (Str.ofString "levels", some (.int L)), (Str.ofString "bands", some (.ref (List.length σ))), (Str.ofString "level", t1), (Str.ofString "wide", t2), (Str.ofString "high", t3)] : Loc) ∧ acc.length = i ∧ RdAll C (τ ++ [O.ns []] ++ J) acc ((List.range i).map (bD W H)), ⟨[], [], _, _, _, by simp, rfl, rfl, .nil⟩, ?_, ?_⟩
  · rintro i ρ' σ' hi ⟨J, acc, t1, t2, t3, rfl, rfl, la, ra⟩
    refine ⟨trivial, ?_⟩
    walk_at "xx"
    rw [fdiv2', fdiv2']
    refine WE_meth ?_
    walk_at "xx"
    refine WM_append (get_mid rfl) ⟨callable_builtin, ?_⟩
    walk_at "xx"
    rw [fdiv2, fdiv2]
    refine WC_appE (gl_up (gl_up (gl_up (gl_up (get_mid rfl))))) (Nat.le_of_eq la) (Nat.le_trans (Nat.le_of_lt hi) (Nat.le_trans hL (Nat.le_of_ble_eq_true rfl))) ?_
    walk_at "xx"
    have s1 := (sh.hide (.list acc)).app J
    have e0 := s1.len.symm
    generalize hX : σ ++ [O.list acc] ++ J = X at *
    generalize hT : τ ++ [O.ns []] ++ J = T at *
    simp only [List.length_append, List.length_singleton]
    refine ⟨J ++ [O.tuple [.int (half W i / 2 : Nat), .int ((half H i + 1) / 2 : Nat)]] ++ [O.tuple [.int ((half W i + 1) / 2 : Nat), .int (half H i / 2 : Nat)]] ++ [O.tuple [.int (half W i / 2 : Nat), .int (half H i / 2 : Nat)]] ++ [O.tuple [.ref X.length, .ref (X.length + 1), .ref (X.length + 2)]], acc ++ [.ref (X.length + 3)], _, _, _, set_midE (o := .list acc) rfl ?_, rfl, by simp [la], ?_⟩
    · rw [← hX]; simp
    · simp only [← List.append_assoc, hT]
      rw [List.range_succ, List.map_append]
      refine ra.up.up.up.up.snoc (.tuple (.new (by simp [e0])) (.cons (rd_pair ?_) (.cons (rd_pair ?_) (.cons (rd_pair ?_) .nil))))
      · exact .up (.up (.up (.new e0)))
      · exact .up (.up (.new (by simp [e0])))
      · exact .up (.new (by simp [e0]))
  · rintro ρ' σ' ⟨J, acc, t1, t2, t3, rfl, rfl, la, ra⟩
    refine ⟨trivial, ?_⟩
    walk_at "xx"
    have s1 := (sh.app [O.list acc]).app J
    have s2 := s1.app [O.tuple [.int (half W L : Nat), .int (half H L : Nat)]]
    have := hq (.ref (σ ++ [O.list acc] ++ J ++ [O.tuple [.int (half W L : Nat), .int (half H L : Nat)]]).length) ([O.list acc] ++ J ++ [O.tuple [.int (half W L : Nat), .int (half H L : Nat)]] ++ [O.tuple [.ref (σ ++ [O.list acc] ++ J).length, .ref σ.length]])
    simp only [← List.append_assoc] at this
    have sh0 : Sh (τ ++ [O.ns []] ++ J) (τ ++ [O.list acc] ++ J) := (Sh.refl.hide (.list acc)).app J
    refine this (.tuple (.new s2.len.symm) (.cons (rd_pair (.up (.new s1.len.symm))) (.cons (.list (.up (.up (.up (.new sh.len.symm)))) (ra.sh sh0).up.up) .nil)))
noncomputable def bandD (B : Nat → Nat → List (List Int)) (l : Nat) : PyData := .tuple [matD (B l 0), matD (B l 1), matD (B l 2)]
noncomputable def Dims (W H L : Nat) (B : Nat → Nat → List (List Int)) : Prop := ∀ l k, l < L → k < 3 → (B l k).length = (bsh W H l k).2 ∧ ∀ r ∈ B l k, r.length = (bsh W H l k).1
theorem half_le (w : Nat) (hw : w ≤ 100) : ∀ i, half w i ≤ 100
  | 0 => hw
  | i + 1 => by have := half_le w hw i; rw [half]; omega
theorem half_pos (w : Nat) (hw : 1 ≤ w) : ∀ i, 1 ≤ half w i
  | 0 => hw
  | i + 1 => by have := half_pos w hw i; rw [half]; omega
theorem waves_spec {C : Cx} {A : Around} {σ : AH} {E : EX} {Q : V → AH → Prop} {vr : V} {M : List (List Int)} {W L : Nat} (c : Law C) (rm : Room A 6) (hL : L ≤ 6) (om : Rd C σ vr (matD M)) (h1 : 1 ≤ M.length) (h2 : M.length ≤ 100) (hw : ∀ r ∈ M, r.length = W) (hw1 : 1 ≤ W) (hw2 : W ≤ 100)
    (hq : ∀ j J vl vb low B, (σ ++ J)[j]? = some (.ns [(Str.ofString "low", vl), (Str.ofString "bands", vb)]) → Rd C (σ ++ J) vl (matD low) → Rd C (σ ++ J) vb (.list ((List.range L).map (bandD B))) → low.length = half M.length L → (∀ r ∈ low, r.length = half W L) → Dims W M.length L B → Q (.ref j) (σ ++ J)) :
    WC C A (.ref 150) [vr, .str (Str.ofString "five"), .str (Str.ofString "edge"), .int L] σ Q E := by
  refine WC_def (pn := [Str.ofString "rows", Str.ofString "kind", Str.ofString "border", Str.ofString "levels"]) (ln := [Str.ofString "bands", Str.ofString "low", Str.ofString "level", Str.ofString "left", Str.ofString "right", Str.ofString "down", Str.ofString "both"]) (gl := [(Str.ofString "need_number", Value.ref 41), (Str.ofString "MOST_LEVELS", Value.int 6 414), (Str.ofString "range", Value.type "range"), (Str.ofString "part_rows", Value.ref 140), (Str.ofString "part_columns", Value.ref 145)]) (dv := []) (ds := []) (c.K _ _ rfl) rfl (codeRec_of c.K (by kernel_rfl)) (by first | exact Room.dep0 (by assumption) | assumption | omega | exact Nat.le_of_ble_eq_true rfl) .nil rfl (fun x v h => c.glo x v ((show ∀ p ∈ ([(Str.ofString "need_number", Value.ref 41), (Str.ofString "MOST_LEVELS", Value.int 6 414), (Str.ofString "range", Value.type "range"), (Str.ofString "part_rows", Value.ref 140), (Str.ofString "part_columns", Value.ref 145)] : List (Str × Value)), p ∈ lawGlo by decide +kernel) (x, v) h)) ?_ (by decide +kernel) (by decide +kernel) (by decide +kernel) (by decide +kernel) ?_
  · intro s xs hkp hl
    obtain ⟨x0, x1, x2, x3, rfl⟩ := len4 hl
    first | exact BindsTo.of_eq rfl | exact BindsTo.of_defaults rfl (hkp _ _ (c.K _ _ rfl)) rfl rfl rfl
  intro env henv
  replace c := c.wg [(Str.ofString "need_number", Value.ref 41), (Str.ofString "MOST_LEVELS", Value.int 6 414), (Str.ofString "range", Value.type "range"), (Str.ofString "part_rows", Value.ref 140), (Str.ofString "part_columns", Value.ref 145)]
  show WSs (C.wg [(Str.ofString "need_number", Value.ref 41), (Str.ofString "MOST_LEVELS", Value.int 6 414), (Str.ofString "range", Value.type "range"), (Str.ofString "part_rows", Value.ref 140), (Str.ofString "part_columns", Value.ref 145)]) _ _ _ [(Str.ofString "rows", some (vr)), (Str.ofString "kind", some (.str (Str.ofString "five"))), (Str.ofString "border", some (.str (Str.ofString "edge"))), (Str.ofString "levels", some (.int L)), (Str.ofString "bands", none), (Str.ofString "low", none), (Str.ofString "level", none), (Str.ofString "left", none), (Str.ofString "right", none), (Str.ofString "down", none), (Str.ofString "both", none)] _ _ _
  have rm := rm.deep (env := env)
  obtain ⟨xs, ox, lx, hx⟩ := om.mat
  have zL : L ≤ 100000 := Nat.le_trans hL (Nat.le_of_ble_eq_true rfl)
  walk_at "xx"
  refine WE_call (C := C) (by walk_at "mem") c.c41 ?_
  walk_at "xx"
  refine WE_globi (by walk_at "mem") ?_
  walk_at "xx"
  refine number_ok c rm.le (by omega) (by omega) ?_
  walk_at "xx"
  refine WS_assign_comp2 (C := C) (l2 := [(Str.ofString "list", Value.type "list")]) (capt := []) henv (by show compOk _ _ _ [] [Str.ofString "list"] = true; decide +kernel) (by simp) (by simp) (by intro p hp; rw [List.mem_singleton.mp hp]; exact .inr (c.glo _ _ (by decide +kernel))) ?_
  refine WItr_of ?_
  walk_at "xx"
  refine ⟨_, _, _, Itb_list rm.han ox.up, ?_⟩
  refine CompGo_shadow (σ ++ [O.ns []]) (fun i d => d = rowI (M.getD i [])) (sz_le (by rw [lx]; exact h2) (Nat.le_of_ble_eq_true rfl)) (fun _ => ox.up.up) ?_ ?_
  · rintro i pv J hi hp cenv hc
    obtain ⟨xj, hxj, rj⟩ := hx i (M.getD i []) (by rw [lx] at hi; simp [List.getD, hi])
    have epv : xj = pv := by rw [← hp, List.getD, hxj]; rfl
    subst epv
    have lj : (M.getD i []).length = W := by
      rw [lx] at hi
      rw [List.getD, List.getElem?_eq_getElem hi]
      exact hw _ (List.getElem_mem hi)
    refine WE_call (C := C) (by walk_at "mem") callable_type ?_
    walk_at "xx"
    refine WC_list (xs := (M.getD i []).map .int) rj.rowI_inv.up.up (by rw [List.length_map, lj]; exact sz_le hw2 (Nat.le_of_ble_eq_true rfl)) ?_
    exact ⟨[O.list ((M.getD i []).map .int)], _, rfl, rfl, Rd.lst (.new (by simp))⟩
  intro J acc ds hr hl hR
  refine ⟨_, by walk_at "up", ?_⟩
  have eds : PyData.list ds = matD M := by
    unfold matD
    congr 1
    apply List.ext_getElem?
    intro i
    rw [List.getElem?_map]
    by_cases hi : i < ds.length
    · rw [hR i ds[i] (by simp [hi]) |> fun e => (by rw [← e]; simp [hi] : ds[i]? = some (rowI (M.getD i [])))]
      have : i < M.length := by omega
      simp [List.getD, this]
    · rw [List.getElem?_eq_none (by omega), List.getElem?_eq_none (by omega)]; rfl
  have rlow : Rd C (σ ++ [O.ns []] ++ (J ++ [O.list acc])) (.ref (σ ++ [O.list []] ++ J).length) (matD M) := by
    rw [← eds, ← List.append_assoc]; exact .list (.new (by simp)) hr.up
  walk_at "xx"
  refine WS_for (WItr_rng rm.han (by walk_at "mem") ?_)
  walk_at "xx"
  refine exRng zL ?_
  refine ⟨fun i ρ' σ' => ∃ J bs vl lw B t1 t2 t3 t4 t5, σ' = σ ++ [O.list bs] ++ J ∧ ρ' = ([(Str.ofString "rows", some vr), (Str.ofString "kind", some (.str (Str.ofString "five"))), (Str.ofString "border", some (.str (Str.ofString "edge"))), (Str.ofString "levels", some (.int L)), (Str.ofString "bands", some (.ref (List.length σ))), (Str.ofString "low", some vl), (Str.ofString "level", t1), (Str.ofString "left", t2), (Str.ofString "right", t3), (Str.ofString "down", t4), (Str.ofString "both", t5)] : Loc) ∧ bs.length = i ∧ Rd C (σ ++ [O.ns []] ++ J) vl (matD lw) ∧ RdAll C (σ ++ [O.ns []] ++ J) bs ((List.range i).map (bandD B)) ∧ lw.length = half M.length i ∧ (∀ r ∈ lw, r.length = half W i) ∧ Dims W M.length i B,
    ⟨J ++ [O.list acc], [], _, M, fun _ _ => [], _, _, _, _, _, by simp, rfl, rfl, rlow, .nil, rfl, hw, fun l k hl => absurd hl (by omega)⟩, ?_, ?_⟩
  · rintro i ρ' σ' hi ⟨J, bs, vl, lw, B, t1, t2, t3, t4, t5, rfl, rfl, lb, rl, rb, dl, dw, dB⟩
    refine ⟨trivial, ?_⟩
    have hp1 := half_pos M.length h1 i
    have hp2 := half_le M.length h2 i
    have hp3 := half_pos W hw1 i
    have hp4 := half_le W hw2 i
    have s1 : Sh (σ ++ [O.ns []] ++ J) (σ ++ [O.list bs] ++ J) := (Sh.refl.hide (.list bs)).app J
    walk_at "xx"
    refine WE_call (C := C) (by walk_at "mem") c.c140 ?_
    walk_at "xx"
    refine part_rows_spec c rm.le s1 rl.wg (by rw [dl]; exact hp2) dw hp4 fun v1 J1 M1 M2 l1 l2 w1 w2 r1 => ?_
    obtain ⟨zs, o1, q1⟩ := r1.tuple_inv
    obtain ⟨x1, y1, rfl, rx1, ry1⟩ := q1.inv2
    have s2 := s1.app J1
    refine WAs_tuple rm.han (o1.sht s2) ?_
    walk_at "xx"
    refine WE_call (C := C) (by walk_at "mem") c.c145 ?_
    walk_at "xx"
    refine part_columns_spec c rm.le s2 rx1 (by rw [l1, dl]; exact hp1) (by rw [l1, dl]; exact hp2) w1 (half_le W hw2 (i + 1)) fun v2 J2 N1 N2 l3 l4 w3 w4 r2 => ?_
    obtain ⟨zs, o2, q2⟩ := r2.tuple_inv
    obtain ⟨x2, y2, rfl, rx2, ry2⟩ := q2.inv2
    have s3 := s2.app J2
    refine WAs_tuple rm.han (o2.sht s3) ?_
    walk_at "xx"
    refine WE_call (C := C) (by walk_at "mem") c.c145 ?_
    walk_at "xx"
    refine part_columns_spec c rm.le s3 ry1.up (by rw [l2, dl]; exact hp1) (by rw [l2, dl]; exact hp2) w2 (Nat.le_trans (Nat.div_le_self _ _) hp4) fun v3 J3 P1 P2 l5 l6 w5 w6 r3 => ?_
    obtain ⟨zs, o3, q3⟩ := r3.tuple_inv
    obtain ⟨x3, y3, rfl, rx3, ry3⟩ := q3.inv2
    have s4 := s3.app J3
    refine WAs_tuple rm.han (o3.sht s4) ?_
    walk_at "xx"
    refine WE_meth ?_
    walk_at "xx"
    refine WM_append (gl_up (gl_up (gl_up (get_mid rfl)))) ⟨callable_builtin, ?_⟩
    walk_at "xx"
    refine WC_appE (gl_up (gl_up (gl_up (gl_up (get_mid rfl))))) (Nat.le_of_eq lb) (Nat.le_trans (Nat.le_of_lt hi) zL) ?_
    walk_at "xx"
    have e0 := s4.len.symm
    refine ⟨J ++ J1 ++ J2 ++ J3 ++ [O.tuple [x3, y2, y3]], bs ++ [.ref (σ ++ [O.list bs] ++ J ++ J1 ++ J2 ++ J3).length], x2, N1, fun l k => if l = i then (if k = 0 then P1 else if k = 1 then N2 else P2) else B l k, _, _, _, _, _, set_midE (o := .list bs) rfl (by simp), rfl, by simp [lb], ?_, ?_, ?_, ?_, ?_⟩
    · simp only [← List.append_assoc]; exact rx2.gw.up.up
    · simp only [← List.append_assoc]
      rw [List.range_succ, List.map_append]
      have eB : (List.range i).map (bandD fun l k => if l = i then (if k = 0 then P1 else if k = 1 then N2 else P2) else B l k) = (List.range i).map (bandD B) := by
        refine List.map_congr_left fun l hl => ?_
        have : l ≠ i := by have := List.mem_range.mp hl; omega
        simp [bandD, this]
      rw [eB]
      refine rb.up.up.up.up.snoc ?_
      have : bandD (fun l k => if l = i then (if k = 0 then P1 else if k = 1 then N2 else P2) else B l k) i = .tuple [matD P1, matD N2, matD P2] := by simp [bandD]
      rw [this]
      exact .tuple (.new e0) (.cons rx3.gw.up (.cons ry2.gw.up.up (.cons ry3.gw.up .nil)))
    · rw [l3, l1, dl]; rfl
    · intro r hr; rw [w3 r hr]; rfl
    · intro l k hl hk
      by_cases e : l = i
      · subst e
        have k3 : k = 0 ∨ k = 1 ∨ k = 2 := by omega
        rcases k3 with rfl | rfl | rfl
        · simp only [if_true]; exact ⟨by show P1.length = half M.length (l + 1); rw [l5, l2, dl]; rfl, fun r hr => by rw [w5 r hr]; rfl⟩
        · simp only [if_true]; exact ⟨by show N2.length = half M.length l / 2; rw [l4, l1, dl], fun r hr => by rw [w4 r hr]; rfl⟩
        · simp only [if_true]; exact ⟨by show P2.length = half M.length l / 2; rw [l6, l2, dl], fun r hr => by rw [w6 r hr]; rfl⟩
      · simp only [e, if_false]; exact dB l k (by omega) hk
  · rintro ρ' σ' ⟨J, bs, vl, lw, B, t1, t2, t3, t4, t5, rfl, rfl, lb, rl, rb, dl, dw, dB⟩
    refine ⟨trivial, ?_⟩
    have s1 : Sh (σ ++ [O.ns []] ++ J) (σ ++ [O.list bs] ++ J) := (Sh.refl.hide (.list bs)).app J
    walk_at "xx"
    refine WE_dict2 (by decide +kernel) ?_
    walk_at "xx"
    have := hq (σ ++ [O.list bs] ++ J).length ([O.list bs] ++ J ++ [O.ns [(Str.ofString "low", vl), (Str.ofString "bands", .ref σ.length)]]) vl (.ref σ.length) lw B
    simp only [← List.append_assoc] at this
    refine this (by simp) (rl.sh s1).up (.list (.up (.up (.new rfl))) (rb.sh s1).up) dl dw dB
theorem clsT {P : Params} : ClsOk (hd.heap_39 P) 207 := ⟨by kernel_rfl, by kernel_rfl, by kernel_rfl, by kernel_rfl, by kernel_rfl, by kernel_rfl⟩
/- the heap while the trees are made: parents, depths and the dict behind a base -/
noncomputable def TSt (B : AH) (ps ds : List Int) (fs : TD) (J : AH) : AH := B ++ ([O.list (ps.map .int), .list (ds.map .int), .tdict fs] ++ J)
theorem TSt.p {B : AH} {ps ds : List Int} {fs : TD} {J : AH} : (TSt B ps ds fs J)[B.length]? = some (.list (ps.map .int)) := by unfold TSt; rw [List.getElem?_append_right (Nat.le_refl _)]; simp
theorem TSt.d {B : AH} {ps ds : List Int} {fs : TD} {J : AH} : (TSt B ps ds fs J)[B.length + 1]? = some (.list (ds.map .int)) := by unfold TSt; rw [List.getElem?_append_right (by omega)]; simp
theorem TSt.f {B : AH} {ps ds : List Int} {fs : TD} {J : AH} : (TSt B ps ds fs J)[B.length + 2]? = some (.tdict fs) := by unfold TSt; rw [List.getElem?_append_right (by omega)]; simp
theorem TSt.b {B : AH} {ps ds : List Int} {fs : TD} {J : AH} {i : Nat} {o : O} (h : B[i]? = some o) : (TSt B ps ds fs J)[i]? = some o := by
  unfold TSt; rw [List.getElem?_append_left (List.getElem?_eq_some_iff.mp h).1]; exact h
theorem TSt.obj {C : Cx} {B : AH} {ps ds : List Int} {fs : TD} {J : AH} {v : V} {o : O} (h : ObjAt C B v o) : ObjAt C (TSt B ps ds fs J) v o := h.up
theorem TSt.snoc {B : AH} {ps ds : List Int} {fs : TD} {J K : AH} : TSt B ps ds fs J ++ K = TSt B ps ds fs (J ++ K) := by unfold TSt; simp
theorem TSt.setp {B : AH} {ps ds : List Int} {fs : TD} {J : AH} {ps' : List Int} : (TSt B ps ds fs J).set B.length (.list (ps'.map .int)) = TSt B ps' ds fs J := by
  unfold TSt; rw [List.set_append_right _ _ (Nat.le_refl _)]; simp
theorem TSt.setd {B : AH} {ps ds : List Int} {fs : TD} {J : AH} {ds' : List Int} : (TSt B ps ds fs J).set (B.length + 1) (.list (ds'.map .int)) = TSt B ps ds' fs J := by
  unfold TSt; rw [List.set_append_right _ _ (by omega)]; simp
theorem TSt.setf {B : AH} {ps ds : List Int} {fs : TD} {J : AH} {fs' : TD} : (TSt B ps ds fs J).set (B.length + 2) (.tdict fs') = TSt B ps ds fs' J := by
  unfold TSt; rw [List.set_append_right _ _ (by omega)]; simp
theorem TSt.tup {B : AH} {ps ds : List Int} {fs : TD} {J : AH} {j : Nat} {xs : List V} (h : (TSt B ps ds fs J)[j]? = some (.tuple xs)) (ps' ds' : List Int) (fs' : TD) (K : AH) : (TSt B ps' ds' fs' (J ++ K))[j]? = some (.tuple xs) := by
  unfold TSt at h ⊢
  by_cases hj : j < B.length
  · rw [List.getElem?_append_left hj] at h ⊢; exact h
  · rw [List.getElem?_append_right (by omega)] at h ⊢
    generalize j - B.length = i at *
    match i, h with
    | 0, h => cases h
    | 1, h => cases h
    | 2, h => cases h
    | i + 3, h =>
      have h : J[i]? = some (.tuple xs) := h
      show (J ++ K)[i]? = some (.tuple xs)
      rw [List.getElem?_append_left (List.getElem?_eq_some_iff.mp h).1]; exact h
theorem TSt.tup0 {B : AH} {ps ds : List Int} {fs : TD} {J : AH} {j : Nat} {xs : List V} (h : (TSt B ps ds fs J)[j]? = some (.tuple xs)) (ps' ds' : List Int) (fs' : TD) : (TSt B ps' ds' fs' J)[j]? = some (.tuple xs) := by
  have := TSt.tup h ps' ds' fs' []; rwa [List.append_nil] at this
theorem TSt.keyed {B : AH} {ps ds : List Int} {fs : TD} {J : AH} {es : TD} (h : Keyed (TSt B ps ds fs J) es) (ps' ds' : List Int) (fs' : TD) (K : AH) : Keyed (TSt B ps' ds' fs' (J ++ K)) es := fun e he => TSt.tup (h e he) ps' ds' fs' K
theorem TSt.keyed0 {B : AH} {ps ds : List Int} {fs : TD} {J : AH} {es : TD} (h : Keyed (TSt B ps ds fs J) es) (ps' ds' : List Int) (fs' : TD) : Keyed (TSt B ps' ds' fs' J) es := fun e he => TSt.tup0 (h e he) ps' ds' fs'
/-- what hangs above: none, or a key, a shape and whether to halve -/
inductive Ab (C : Cx) (X : AH) (fs : TD) : V → V → (Nat → Nat → Int) → Prop
  | none : Ab C X fs .none .none (fun _ _ => -1)
  | some {a f : Nat} {ka : List Atom} {vs : V} {aw ah base : Nat} {hv : Bool} : X[a]? = some (.tuple (ka.map atomV)) → X[f]? = some (.tuple [vs, .bool hv]) → ObjAt C X vs (.tuple [.int aw, .int ah]) → aw ≤ 100 → ah ≤ 100 → base ≤ 100000 → tget fs ka = some (.int base) →
    Ab C X fs (.ref a) (.ref f) (fun r c => addC base aw ah (if hv = true then 2 else 1) r c)
theorem add_spec {C : Cx} {A : Around} {B J : AH} {E : EX} {Q : V → AH → Prop} {s d0 kt : Nat} {es : List (Str × V)} {ps ds : List Int} {fs : TD} {ks : List Atom} {vsh va vf : V} {w h : Nat} {dp : Int} {g : Nat → Nat → Int} (c : Law C) (rm : Room A 1)
    (b1 : B[s]? = some (.inst 207 d0)) (b2 : B[d0]? = some (.ns es)) (e1 : es.lookup (Str.ofString "parents") = some (.ref B.length)) (e2 : es.lookup (Str.ofString "depths") = some (.ref (B.length + 1)))
    (hk : Keyed (TSt B ps ds fs J) fs) (nd : (fs.map (·.1)).Nodup) (hz : fs.length ≤ 1000) (bt : (TSt B ps ds fs J)[kt]? = some (.tuple (ks.map atomV))) (osh : ObjAt C B vsh (.tuple [.int w, .int h])) (hw : w ≤ 100) (hh : h ≤ 100) (hps : ps.length ≤ 10000) (hds : ds.length ≤ 10000)
    (hab : Ab C (TSt B ps ds fs J) (tput fs ks kt (.int ps.length)) va vf g)
    (hq : Q .none (TSt B (ps ++ (List.range h).flatMap fun r => (List.range w).map (g r)) (ds ++ List.replicate (w * h) dp) (tput fs ks kt (.int ps.length)) J)) :
    WC C A (.ref 176) [.ref s, .ref kt, vsh, .int dp, va, vf, .ref (B.length + 2)] (TSt B ps ds fs J) Q E := by
  refine WC_def (pn := [Str.ofString "self", Str.ofString "key", Str.ofString "shape", Str.ofString "depth", Str.ofString "above", Str.ofString "form", Str.ofString "first"]) (ln := [Str.ofString "width", Str.ofString "height", Str.ofString "row", Str.ofString "column", Str.ofString "above_shape", Str.ofString "halve", Str.ofString "by", Str.ofString "up", Str.ofString "left"]) (gl := [(Str.ofString "len", Value.builtin "len"), (Str.ofString "range", Value.type "range"), (Str.ofString "min", Value.builtin "min")]) (dv := []) (ds := []) (c.K _ _ rfl) rfl (codeRec_of c.K (by kernel_rfl)) (by first | exact Room.dep0 (by assumption) | assumption | omega | exact Nat.le_of_ble_eq_true rfl) .nil rfl (fun x v h => c.glo x v ((show ∀ p ∈ ([(Str.ofString "len", Value.builtin "len"), (Str.ofString "range", Value.type "range"), (Str.ofString "min", Value.builtin "min")] : List (Str × Value)), p ∈ lawGlo by decide +kernel) (x, v) h)) ?_ (by decide +kernel) (by decide +kernel) (by decide +kernel) (by decide +kernel) ?_
  · intro s xs hkp hl
    obtain ⟨x0, x1, x2, x3, x4, x5, x6, rfl⟩ := len7 hl
    first | exact BindsTo.of_eq rfl | exact BindsTo.of_defaults rfl (hkp _ _ (c.K _ _ rfl)) rfl rfl rfl
  intro env henv
  replace c := c.wg [(Str.ofString "len", Value.builtin "len"), (Str.ofString "range", Value.type "range"), (Str.ofString "min", Value.builtin "min")]
  show WSs (C.wg [(Str.ofString "len", Value.builtin "len"), (Str.ofString "range", Value.type "range"), (Str.ofString "min", Value.builtin "min")]) _ _ _ [(Str.ofString "self", some (.ref s)), (Str.ofString "key", some (.ref kt)), (Str.ofString "shape", some (vsh)), (Str.ofString "depth", some (.int dp)), (Str.ofString "above", some (va)), (Str.ofString "form", some (vf)), (Str.ofString "first", some (.ref (B.length + 2))), (Str.ofString "width", none), (Str.ofString "height", none), (Str.ofString "row", none), (Str.ofString "column", none), (Str.ofString "above_shape", none), (Str.ofString "halve", none), (Str.ofString "by", none), (Str.ofString "up", none), (Str.ofString "left", none)] _ _ _
  have rm := rm.deep (env := env)
  have atP : ∀ {ps ds : List Int} {fs : TD} {Q : V → AH → Prop} {E : EX}, Q (.ref B.length) (TSt B ps ds fs J) → WAt (C.wg _) (A.deeper env) (.ref s) (Str.ofString "parents") (TSt B ps ds fs J) Q E := fun hq => at_inst c.K clsT (by kernel_rfl) (TSt.b b1) (TSt.b b2) e1 rfl hq
  have atD : ∀ {ps ds : List Int} {fs : TD} {Q : V → AH → Prop} {E : EX}, Q (.ref (B.length + 1)) (TSt B ps ds fs J) → WAt (C.wg _) (A.deeper env) (.ref s) (Str.ofString "depths") (TSt B ps ds fs J) Q E := fun hq => at_inst c.K clsT (by kernel_rfl) (TSt.b b1) (TSt.b b2) e2 rfl hq
  walk_at "xx"
  refine WE_call (C := C) (by walk_at "mem") callable_builtin ?_
  walk_at "xx"
  refine atP ?_
  walk_at "xx"
  refine WC_len TSt.p (by simp; omega) ?_
  walk_at "xx"
  rw [List.length_map]
  refine seti_tdict rm.u TSt.f hk nd bt (by simp [sizeLine]; omega) ?_
  rw [TSt.setf]
  walk_at "xx"
  refine WAs_tuple rm.han (TSt.obj osh) ?_
  walk_at "xx"
  have hk' := hk.put (v := .int ps.length) bt
  have nd' := tput_nodup (ks := ks) (j := kt) (v := .int ps.length) nd
  have hab' : ∀ ps' ds', Ab C (TSt B ps' ds' (tput fs ks kt (.int ps.length)) J) (tput fs ks kt (.int ps.length)) va vf g := by
    intro ps' ds'
    cases hab with
    | none => exact .none
    | some h1 h2 h3 h4 h5 h6 h7 =>
      refine .some (TSt.tup0 h1 _ _ _) (TSt.tup0 h2 _ _ _) ?_ h4 h5 h6 h7
      revert h3
      generalize ([V.int _, V.int _] : List V) = xs
      intro h3
      rename_i vs _ _ _ _
      cases vs with
      | ref j => exact TSt.tup0 h3 _ _ _
      | k x => cases x <;> exact h3
      | _ => exact h3.elim
  generalize hfs : tput fs ks kt (.int ps.length) = fs' at *
  have hkk : ∀ ps' ds', Keyed (TSt B ps' ds' fs' J) fs' := fun ps' ds' => TSt.keyed0 hk' _ _ _
  clear hab hk bt
  refine WS_for (WItr_rng rm.han (by walk_at "mem") ?_)
  walk_at "xx"
  refine exNat ⟨by omega, ?_⟩
  refine ⟨fun i ρ' σ' => ∃ t1 t2 t3 t4 t5 t6 t7, σ' = TSt B (ps ++ (List.range i).flatMap fun r => (List.range w).map (g r)) (ds ++ List.replicate (w * i) dp) fs' J ∧ ρ' = ([(Str.ofString "self", some (.ref s)), (Str.ofString "key", some (.ref kt)), (Str.ofString "shape", some vsh), (Str.ofString "depth", some (.int dp)), (Str.ofString "above", some va), (Str.ofString "form", some vf), (Str.ofString "first", some (.ref (List.length B + 2))), (Str.ofString "width", some (.int w)), (Str.ofString "height", some (.int h)), (Str.ofString "row", t1), (Str.ofString "column", t2), (Str.ofString "above_shape", t3), (Str.ofString "halve", t4), (Str.ofString "by", t5), (Str.ofString "up", t6), (Str.ofString "left", t7)] : Loc), ⟨_, _, _, _, _, _, _, by simp, rfl⟩, ?_, ?_⟩
  · rintro i ρ' σ' hi ⟨t1, t2, t3, t4, t5, t6, t7, rfl, rfl⟩
    refine ⟨trivial, ?_⟩
    walk_at "xx"
    refine WS_for (WItr_rng rm.han (by walk_at "mem") ?_)
    walk_at "xx"
    refine exNat ⟨by omega, ?_⟩
    have lpi : ((List.range i).flatMap fun r => (List.range w).map (g r)).length = w * i := by
      have : ∀ n, ((List.range n).flatMap fun r => (List.range w).map (g r)).length = w * n := by
        intro n
        induction n with
        | zero => rfl
        | succ n ih => rw [List.range_succ, List.flatMap_append, List.length_append, ih]; simp [Nat.mul_succ]
      exact this i
    have hwi : w * i ≤ 100 * 100 := Nat.mul_le_mul (by omega) (by omega)
    generalize hps' : ps ++ (List.range i).flatMap (fun r => (List.range w).map (g r)) = psi at *
    have lps' : psi.length ≤ 20000 := by rw [← hps', List.length_append, lpi]; omega
    have lds' : (ds ++ List.replicate (w * i) dp).length ≤ 20000 := by rw [List.length_append, List.length_replicate]; omega
    generalize hds' : ds ++ List.replicate (w * i) dp = dsi at *
    refine ⟨fun j ρ' σ' => ∃ t2 t3 t4 t5 t6 t7, σ' = TSt B (psi ++ (List.range j).map (g i)) (dsi ++ List.replicate j dp) fs' J ∧ ρ' = ([(Str.ofString "self", some (.ref s)), (Str.ofString "key", some (.ref kt)), (Str.ofString "shape", some vsh), (Str.ofString "depth", some (.int dp)), (Str.ofString "above", some va), (Str.ofString "form", some vf), (Str.ofString "first", some (.ref (List.length B + 2))), (Str.ofString "width", some (.int w)), (Str.ofString "height", some (.int h)), (Str.ofString "row", (some (.int i))), (Str.ofString "column", t2), (Str.ofString "above_shape", t3), (Str.ofString "halve", t4), (Str.ofString "by", t5), (Str.ofString "up", t6), (Str.ofString "left", t7)] : Loc), ⟨_, _, _, _, _, _, by simp, rfl⟩, ?_, ?_⟩
    · rintro j ρ' σ' hj ⟨t2, t3, t4, t5, t6, t7, rfl, rfl⟩
      refine ⟨trivial, ?_⟩
      have fin : ∀ x : Int, x = g i j → (psi ++ (List.range j).map (g i)).map V.int ++ [V.int x] = (psi ++ (List.range (j + 1)).map (g i)).map V.int := by
        rintro x rfl; rw [List.range_succ]; simp
      have find : (dsi ++ List.replicate j dp).map V.int ++ [V.int dp] = (dsi ++ List.replicate (j + 1) dp).map V.int := by
        rw [List.replicate_succ']; simp
      have hab := hab' (psi ++ (List.range j).map (g i)) (dsi ++ List.replicate (j + 1) dp)
      have hkk2 := hkk (psi ++ (List.range j).map (g i)) (dsi ++ List.replicate (j + 1) dp)
      walk_at "xx"
      refine WE_meth ?_
      walk_at "xx"
      refine atD ?_
      refine WM_append TSt.d ⟨callable_builtin, ?_⟩
      walk_at "xx"
      refine WC_append TSt.d (by simp [sizeLine]; omega) ?_
      rw [find, TSt.setd]
      walk_at "xx"
      cases hab with
      | none =>
        refine is_none_n ?_
        walk_at "xx"
        refine WE_meth ?_
        walk_at "xx"
        refine atP ?_
        refine WM_append TSt.p ⟨callable_builtin, ?_⟩
        walk_at "xx"
        refine WC_append TSt.p (by simp [sizeLine]; omega) ?_
        rw [fin (-1) rfl, TSt.setp]
        walk_at "xx"
        exact ⟨_, _, _, _, _, _, rfl, rfl⟩
      | @some a f ka vs aw ah base hv h1 h2 h3 h4 h5 h6 h7 =>
        refine is_none_r ?_
        walk_at "xx"
        refine WAs_tuple rm.han (show ObjAt _ _ (.ref f) _ from h2) ?_
        walk_at "xx"
        have hd12 : (if hv = true then (2 : Int) else 1) = ((if hv = true then 2 else 1 : Nat) : Int) := by split <;> rfl
        have hdne : ((if hv = true then 2 else 1 : Nat) : Int) ≠ 0 := by split <;> decide
        have hdsm : ((if hv = true then 2 else 1 : Nat) : Int).natAbs < 1073741824 := by split <;> decide
        refine WB_plain ?_
        walk_at "xx"
        refine ite_WE (x := .int ((if hv = true then 2 else 1 : Nat) : Int)) ?_ ?_ ?_
        · rintro rfl
          walk_at "xx"
          exact ⟨rfl, rfl⟩
        · rintro rfl
          walk_at "xx"
          exact ⟨rfl, rfl⟩
        walk_at "xx"
        refine WE_call (C := C) (by walk_at "mem") callable_builtin ?_
        walk_at "xx"
        refine fdiv_ii hdne ?_ hdsm
        walk_at "xx"
        refine item_tuple h3 (by decide) (by decide) rfl ?_
        walk_at "xx"
        refine WC_min rm.han ?_
        walk_at "xx"
        refine WE_call (C := C) (by walk_at "mem") callable_builtin ?_
        walk_at "xx"
        refine fdiv_ii hdne ?_ hdsm
        walk_at "xx"
        refine item_tuple h3 (by decide) (by decide) rfl ?_
        walk_at "xx"
        refine WC_min rm.han ?_
        walk_at "xx"
        refine WE_meth ?_
        walk_at "xx"
        refine atP ?_
        refine WM_append TSt.p ⟨callable_builtin, ?_⟩
        walk_at "xx"
        refine item_tdict rm.u TSt.f hkk2 nd' h1 h7 ?_
        walk_at "xx"
        refine item_tuple h3 (by decide) (by decide) rfl ?_
        walk_at "xx"
        refine mul_ii (mul_small_r (by omega) (by omega)) ?_
        walk_at "xx"
        refine WC_append TSt.p (by simp [sizeLine]; omega) ?_
        rw [fin ((base : Int) + min ((i : Int).fdiv ((if hv = true then 2 else 1 : Nat) : Int)) ((ah : Int) - 1) * aw + min ((j : Int).fdiv ((if hv = true then 2 else 1 : Nat) : Int)) ((aw : Int) - 1)) rfl, TSt.setp]
        walk_at "xx"
        exact ⟨_, _, _, _, _, _, rfl, rfl⟩
    · rintro ρ' σ' ⟨t2, t3, t4, t5, t6, t7, rfl, rfl⟩
      refine ⟨trivial, ?_⟩
      walk_at "xx"
      refine ⟨_, _, _, _, _, _, _, ?_, rfl⟩
      rw [← hps', ← hds', List.range_succ, List.flatMap_append, List.append_assoc, List.append_assoc, List.replicate_append_replicate, Nat.mul_succ]
      simp
  · rintro ρ' σ' ⟨t1, t2, t3, t4, t5, t6, t7, rfl, rfl⟩
    refine ⟨trivial, ?_⟩
    walk_at "xx"
    exact hq
/- the heap while an instance of the class is made -/
noncomputable def TI (σ0 : AH) (es : List (Str × V)) (K : AH) : AH := σ0 ++ ([.ns es, .inst 207 σ0.length] ++ K)
theorem TI.ns {σ0 K : AH} {es : List (Str × V)} : (TI σ0 es K)[σ0.length]? = some (.ns es) := by unfold TI; rw [List.getElem?_append_right (Nat.le_refl _)]; simp
theorem TI.inst {σ0 K : AH} {es : List (Str × V)} : (TI σ0 es K)[σ0.length + 1]? = some (.inst 207 σ0.length) := by unfold TI; rw [List.getElem?_append_right (by omega)]; simp
theorem TI.set {σ0 K : AH} {es es' : List (Str × V)} : (TI σ0 es K).set σ0.length (.ns es') = TI σ0 es' K := by unfold TI; rw [List.set_append_right _ _ (Nat.le_refl _)]; simp
theorem TI.snoc {σ0 K J : AH} {es : List (Str × V)} : TI σ0 es K ++ J = TI σ0 es (K ++ J) := by unfold TI; simp
theorem TI.len {σ0 K : AH} {es : List (Str × V)} : (TI σ0 es K).length = σ0.length + 2 + K.length := by unfold TI; simp; omega
theorem TI.sh {σ0 K : AH} {es es' : List (Str × V)} : Sh (TI σ0 es K) (TI σ0 es' K) := by
  have aux : ∀ (j : Nat) (o : O), (∀ es, o ≠ .ns es) → (TI σ0 es K)[j]? = some o → (TI σ0 es' K)[j]? = some o := by
    intro j o ho h
    unfold TI at h ⊢
    by_cases hj : j < σ0.length
    · rw [List.getElem?_append_left hj] at h ⊢; exact h
    · rw [List.getElem?_append_right (by omega)] at h ⊢
      generalize j - σ0.length = i at *
      match i, h with
      | 0, h => cases h; exact absurd rfl (ho _)
      | i + 1, h => exact h
  exact ⟨by rw [TI.len, TI.len], fun j xs h => aux j _ (fun _ e => by cases e) h, fun j xs h => aux j _ (fun _ e => by cases e) h⟩
theorem set_inst2 {C : Cx} {A : Around} {σ σ' : AH} {E : EX} {K : Frag} {Cl : Addr} {i d : Nat} {es : List (Str × V)} {name : Str} {x : V} {Q : AH → Prop} (X : K.In C.G) (ok : ClsOk K Cl) (ht : takerIn K Cl name = some none) (b : σ[i]? = some (.inst Cl d)) (bd : σ[d]? = some (.ns es))
    (hz : es.length ≤ sizeLine) (he : σ.set d (.ns (putNs name x es)) = σ') (h : Q σ') : WSt C A (.ref i) name x σ Q E := set_inst X ok ht b bd hz (he ▸ h)
noncomputable def tes3 (nB : Nat) : List (Str × V) := [(Str.ofString "shape", .ref nB), (Str.ofString "parents", .ref (nB + 1)), (Str.ofString "depths", .ref (nB + 1 + 1))]
theorem putNs_new {k : Str} {v : V} : ∀ {es : List (Str × V)}, (es.map (·.1)).contains k = false → putNs k v es = es ++ [(k, v)]
  | [], _ => rfl
  | (y, w) :: es, h => by
    simp only [List.map_cons, List.contains_cons, Bool.or_eq_false_iff] at h
    have hne : y ≠ k := by rintro rfl; simp at h
    rw [putNs]
    simp only [hne, if_false, beq_iff_eq, List.cons_append]
    rw [putNs_new h.2]
theorem set_TI {C : Cx} {A : Around} {E : EX} {Q : AH → Prop} {σ0 K : AH} {es : List (Str × V)} {name : Str} {x : V} (c : Law C) (ht : takerIn (hd.heap_39 C.w.params) 207 name = some none) (hz : es.length ≤ 10) (hn : (es.map (·.1)).contains name = false) (h : Q (TI σ0 (es ++ [(name, x)]) K)) : WSt C A (.ref (σ0.length + 1)) name x (TI σ0 es K) Q E :=
  set_inst2 c.K clsT ht TI.inst TI.ns (by simp [sizeLine]; omega) (by rw [TI.set, putNs_new hn]) h
noncomputable def tes (js jp jd jc : Nat) : List (Str × V) := [(Str.ofString "shape", .ref js), (Str.ofString "parents", .ref jp), (Str.ofString "depths", .ref jd), (Str.ofString "children", .ref jc)]
noncomputable def kidD (P : List Int) (n : Nat) : PyData := .list ((List.range n).map fun k => rowI ((kids P k).map fun (c : Nat) => (c : Int)))
/-- the trees of a plane's levels -/
structure TreeAt (C : Cx) (σ : AH) (t : Nat) (W H L : Nat) : Prop where
  ex : ∃ d js jp jd jc, σ[t]? = some (.inst 207 d) ∧ σ[d]? = some (.ns (tes js jp jd jc)) ∧ Rd C σ (.ref js) (shD W H L) ∧ σ[jp]? = some (.list ((psM W H L (3 * L)).map .int)) ∧ σ[jd]? = some (.list ((dsM W H L (3 * L)).map .int)) ∧ Rd C σ (.ref jc) (kidD (psM W H L (3 * L)) (W * H))
theorem TreeAt.up {C : Cx} {σ J : AH} {t W H L : Nat} (h : TreeAt C σ t W H L) : TreeAt C (σ ++ J) t W H L :=
  let ⟨d, js, jp, jd, jc, h1, h2, h3, h4, h5, h6⟩ := h.ex
  ⟨d, js, jp, jd, jc, gl_up h1, gl_up h2, h3.up, gl_up h4, gl_up h5, h6.up⟩
theorem band_at {C : Cx} {σ : AH} {W H L : Nat} {v : V} (h : Rd C σ v (.list ((List.range L).map (bD W H)))) : ∃ xs, ObjAt C σ v (.list xs) ∧ xs.length = L ∧ ∀ l, l < L → ∃ bl ys, xs[l]? = some bl ∧ ObjAt C σ bl (.tuple ys) ∧ ys.length ≤ 100000 ∧ ∀ k, k < 3 → ∃ x, ys[k]? = some x ∧ ObjAt C σ x (.tuple [.int (bsh W H l k).1, .int (bsh W H l k).2]) := by
  obtain ⟨xs, o, r⟩ := h.list_inv
  refine ⟨xs, o, by have := r.len; simpa using this, fun l hl => ?_⟩
  obtain ⟨bl, h1, h2⟩ := r.get (i := l) (d := bD W H l) (by simp [hl])
  obtain ⟨ys, o2, r2⟩ := Rd.tuple_inv (show Rd C σ bl (.tuple _) from h2)
  obtain ⟨x, y, z, rfl, hx, hy, hz⟩ := r2.inv3
  refine ⟨bl, _, h1, o2, Nat.le_of_ble_eq_true rfl, fun k hk => ?_⟩
  have k3 : k = 0 ∨ k = 1 ∨ k = 2 := by omega
  rcases k3 with rfl | rfl | rfl
  · exact ⟨x, rfl, hx.pair⟩
  · exact ⟨y, rfl, hy.pair⟩
  · exact ⟨z, rfl, hz.pair⟩
theorem flat_const (x : Int) (w : Nat) : ∀ h, ((List.range h).flatMap fun _ => (List.range w).map fun _ => x) = List.replicate (w * h) x
  | 0 => rfl
  | h + 1 => by
    rw [List.range_succ, List.flatMap_append, flat_const x w h, Nat.mul_succ, ← List.replicate_append_replicate]
    congr 1
    simp [List.map_const']
noncomputable def abK (L kd : Nat) : Option Nat → List Atom
  | none => [.s (Str.ofString "low"), .i 0]
  | some t => [.i kd, .i (L - 1 - t : Nat)]
noncomputable def abS (W H L kd : Nat) : Option Nat → Nat × Nat
  | none => (half W L, half H L)
  | some t => bsh W H (L - 1 - t) kd
noncomputable def abB (W H L kd : Nat) : Option Nat → Nat
  | none => 0
  | some t => offM W H L (3 * t + kd)
theorem blkM_eq (W H L m : Nat) : blkM W H L m = (List.range (bsh W H (L - 1 - m / 3) (m % 3)).2).flatMap fun r => (List.range (bsh W H (L - 1 - m / 3) (m % 3)).1).map fun c => addC (abB W H L (m % 3) (abv W H L (m % 3) (m / 3))) (abS W H L (m % 3) (abv W H L (m % 3) (m / 3))).1 (abS W H L (m % 3) (abv W H L (m % 3) (m / 3))).2 (if (abv W H L (m % 3) (m / 3)).isSome = true then 2 else 1) r c := by
  unfold blkM
  cases abv W H L (m % 3) (m / 3) with
  | none => rfl
  | some t => rfl
theorem abv_lt {W H L kd : Nat} : ∀ {i t : Nat}, abv W H L kd i = some t → t < i
  | 0, t, h => by cases h
  | i + 1, t, h => by
    unfold abv at h
    split at h
    · cases h; omega
    · have := abv_lt h; omega
theorem bsh_le {W H l k : Nat} (hW : W ≤ 100) (hH : H ≤ 100) : (bsh W H l k).1 ≤ 100 ∧ (bsh W H l k).2 ≤ 100 := by
  have a := half_le W hW l
  have b := half_le H hH l
  have c := half_le W hW (l + 1)
  have d := half_le H hH (l + 1)
  match k with
  | 0 => exact ⟨by show half W l / 2 ≤ 100; omega, d⟩
  | 1 => exact ⟨c, by show half H l / 2 ≤ 100; omega⟩
  | k + 2 => exact ⟨by show half W l / 2 ≤ 100; omega, by show half H l / 2 ≤ 100; omega⟩
/-- what the dict of first places holds -/
structure Fst (W H L m : Nat) (fs : TD) : Prop where
  nd : (fs.map (·.1)).Nodup
  len : fs.length ≤ m + 1
  low : tget fs [.s (Str.ofString "low"), .i 0] = some (.int 0)
  at' : ∀ m', m' < m → tget fs [.i (m' % 3 : Nat), .i (L - 1 - m' / 3 : Nat)] = some (.int (offM W H L m'))
theorem Fst.put {W H L m : Nat} {fs : TD} (f : Fst W H L m fs) (hm : m < 3 * L) (j : Nat) : Fst W H L (m + 1) (tput fs [.i (m % 3 : Nat), .i (L - 1 - m / 3 : Nat)] j (.int (offM W H L m))) := by
  refine ⟨tput_nodup f.nd, by have := tput_len (es := fs) (ks := [.i (m % 3 : Nat), .i (L - 1 - m / 3 : Nat)]) (j := j) (v := .int (offM W H L m)); have := f.len; omega, ?_, fun m' hm' => ?_⟩
  · rw [tget_tput, if_neg (by simp)]; exact f.low
  · rw [tget_tput]
    by_cases e : m' = m
    · subst e; rw [if_pos rfl]
    · rw [if_neg]
      · exact f.at' m' (by omega)
      · intro h
        simp only [List.cons.injEq, Atom.i.injEq, and_true] at h
        omega
theorem Fst.get {W H L m : Nat} {fs : TD} (f : Fst W H L m fs) {kd i : Nat} (hkd : kd < 3) (hi : i * 3 ≤ m) : tget fs (abK L kd (abv W H L kd i)) = some (.int (abB W H L kd (abv W H L kd i))) := by
  cases h : abv W H L kd i with
  | none => exact f.low
  | some t =>
    have ht := abv_lt h
    have := f.at' (3 * t + kd) (by omega)
    rw [show (3 * t + kd) % 3 = kd by omega, show (3 * t + kd) / 3 = t by omega] at this
    exact this
theorem offM_le {W H L : Nat} (hW : W ≤ 7) (hH : H ≤ 7) (hL : L ≤ 3) (h1 : 1 ≤ W) (h2 : 1 ≤ H) : ∀ m, m ≤ 3 * L → offM W H L m ≤ 49 := by
  have t := (tree_ok h1 hW h2 hH hL).tot
  have hwh : W * H ≤ 7 * 7 := Nat.mul_le_mul hW hH
  have mono : ∀ k m, offM W H L m ≤ offM W H L (m + k) := by
    intro k
    induction k with
    | zero => intro m; exact Nat.le_refl _
    | succ k ih => intro m; have := ih m; rw [show m + (k + 1) = (m + k) + 1 from rfl, offM]; omega
  intro m hm
  have := mono (3 * L - m) m
  rw [show m + (3 * L - m) = 3 * L by omega] at this
  omega
theorem kidsUp {P : List Int} {n : Nat} {u : Nat} : ((List.range (n + 1)).filter fun c => P.getD c 0 == (u : Int)) = if P.getD n 0 = (u : Int) then ((List.range n).filter fun c => P.getD c 0 == (u : Int)) ++ [n] else ((List.range n).filter fun c => P.getD c 0 == (u : Int)) := by
  rw [List.range_succ, List.filter_append]
  by_cases h : P.getD n 0 = (u : Int)
  · rw [if_pos h]; congr 1; rw [List.filter_cons, if_pos (by rw [h]; exact beq_self_eq_true _)]; rfl
  · rw [if_neg h, List.filter_cons, if_neg (by simpa using h)]; simp
theorem set_map_range {n u : Nat} {f g : Nat → O} {o : O} (hu : u < n) (h : ∀ j, j < n → g j = if j = u then o else f j) : ((List.range n).map f).set u o = (List.range n).map g := by
  apply List.ext_getElem
  · simp
  · intro j h1 h2
    simp at h1
    rw [List.getElem_set]
    simp only [List.getElem_map, List.getElem_range, h j h1]
    by_cases e : j = u
    · subst e; simp
    · rw [if_neg (Ne.symm e), if_neg e]
theorem init_tree {C : Cx} {A : Around} {σ0 : AH} {E : EX} {Q : V → AH → Prop} {W H L : Nat} (c : Law C) (rm : Room A 2) (hW1 : 1 ≤ W) (hW : W ≤ 7) (hH1 : 1 ≤ H) (hH : H ≤ 7) (hL : L ≤ 3)
    (hq : ∀ J, TreeAt C (σ0 ++ J) (σ0.length + 1) W H L → Q .none (σ0 ++ J)) : WCc C A (.ref 169) [.ref (σ0.length + 1), .int W, .int H, .int L] (σ0 ++ [O.ns []] ++ [.inst 207 σ0.length]) Q E := by
  refine WCc_def (pn := [Str.ofString "self", Str.ofString "width", Str.ofString "height", Str.ofString "levels"]) (ln := [Str.ofString "low", Str.ofString "bands", Str.ofString "first", Str.ofString "level", Str.ofString "kind", Str.ofString "above", Str.ofString "above_shape", Str.ofString "halve", Str.ofString "coarser", Str.ofString "k"]) (gl := [(Str.ofString "shapes", Value.ref 157), (Str.ofString "range", Value.type "range"), (Str.ofString "min", Value.builtin "min"), (Str.ofString "len", Value.builtin "len")]) (dv := []) (ds := []) (c.K _ _ rfl) rfl (codeRec_of c.K (by kernel_rfl)) (by first | exact Room.dep0 (by assumption) | assumption | omega | exact Nat.le_of_ble_eq_true rfl) .nil rfl (fun x v h => c.glo x v ((show ∀ p ∈ ([(Str.ofString "shapes", Value.ref 157), (Str.ofString "range", Value.type "range"), (Str.ofString "min", Value.builtin "min"), (Str.ofString "len", Value.builtin "len")] : List (Str × Value)), p ∈ lawGlo by decide +kernel) (x, v) h)) ?_ (by decide +kernel) (by decide +kernel) (by decide +kernel) (by decide +kernel) ?_
  · intro s xs hkp hl
    obtain ⟨x0, x1, x2, x3, rfl⟩ := len4 hl
    first | exact BindsTo.of_eq rfl | exact BindsTo.of_defaults rfl (hkp _ _ (c.K _ _ rfl)) rfl rfl rfl
  intro env henv
  replace c := c.wg [(Str.ofString "shapes", Value.ref 157), (Str.ofString "range", Value.type "range"), (Str.ofString "min", Value.builtin "min"), (Str.ofString "len", Value.builtin "len")]
  show WSs (C.wg [(Str.ofString "shapes", Value.ref 157), (Str.ofString "range", Value.type "range"), (Str.ofString "min", Value.builtin "min"), (Str.ofString "len", Value.builtin "len")]) _ _ _ [(Str.ofString "self", some (.ref (σ0.length + 1))), (Str.ofString "width", some (.int W)), (Str.ofString "height", some (.int H)), (Str.ofString "levels", some (.int L)), (Str.ofString "low", none), (Str.ofString "bands", none), (Str.ofString "first", none), (Str.ofString "level", none), (Str.ofString "kind", none), (Str.ofString "above", none), (Str.ofString "above_shape", none), (Str.ofString "halve", none), (Str.ofString "coarser", none), (Str.ofString "k", none)] _ _ _
  have rm := rm.deep (env := env)
  have e0 : σ0 ++ [O.ns []] ++ [O.inst 207 σ0.length] = TI σ0 [] [] := by unfold TI; simp
  rw [e0]
  walk_at "xx"
  refine WE_call (C := C) (by walk_at "mem") c.c157 ?_
  walk_at "xx"
  refine shapes_spec c rm.le (by omega) Sh.refl fun v J1 rv => ?_
  obtain ⟨zs, o, r⟩ := rv.tuple_inv
  obtain ⟨vl, vb, rfl, rl, rb⟩ := r.inv2
  refine WAs_tuple rm.han o ?_
  walk_at "xx"
  simp only [TI.snoc, List.nil_append]
  refine set_TI c (by kernel_rfl) (by simp) rfl ?_
  rw [TI.len]
  simp only [List.nil_append]
  generalize hnB : σ0.length + 2 + List.length J1 = nB
  walk_at "xx"
  rw [TI.snoc]
  refine set_TI c (by kernel_rfl) (by simp) (by show [Str.ofString "shape"].contains (Str.ofString "parents") = false; decide +kernel) ?_
  rw [TI.len, List.length_append, List.length_singleton, ← Nat.add_assoc, hnB]
  walk_at "xx"
  rw [TI.snoc]
  refine set_TI c (by kernel_rfl) (by simp) (by show [Str.ofString "shape", Str.ofString "parents"].contains (Str.ofString "depths") = false; decide +kernel) ?_
  rw [TI.len, List.length_append, List.length_append, List.length_singleton, List.length_singleton, ← Nat.add_assoc, ← Nat.add_assoc, hnB]
  simp only [List.cons_append, List.nil_append]
  walk_at "xx"
  refine WE_dict0t ?_
  have hsh : Sh (TI σ0 [] [] ++ J1) (TI σ0 (tes3 nB) J1) := by rw [TI.snoc, List.nil_append]; exact TI.sh
  have plow : ObjAt C (TI σ0 (tes3 nB) (J1 ++ [O.tuple [vl, vb]])) vl (.tuple [.int (half W L : Nat), .int (half H L : Nat)]) := by rw [← TI.snoc]; exact ((rl.sh hsh).pair).up
  have rbands : Rd C (TI σ0 (tes3 nB) (J1 ++ [O.tuple [vl, vb]])) vb (.list ((List.range L).map (bD W H))) := by rw [← TI.snoc]; exact (rb.sh hsh).up.gw
  have rshape : Rd C (TI σ0 (tes3 nB) (J1 ++ [O.tuple [vl, vb]])) (.ref nB) (shD W H L) := by
    rw [← TI.snoc]
    exact .tuple (.new (by rw [TI.len, hnB])) (.cons (rl.sh hsh).up.gw (.cons (rb.sh hsh).up.gw .nil))
  have b1 : (TI σ0 (tes3 nB) (J1 ++ [O.tuple [vl, vb]]))[σ0.length + 1]? = some (.inst 207 σ0.length) := TI.inst
  have b2 : (TI σ0 (tes3 nB) (J1 ++ [O.tuple [vl, vb]]))[σ0.length]? = some (.ns (tes3 nB)) := TI.ns
  have lB : (TI σ0 (tes3 nB) (J1 ++ [O.tuple [vl, vb]])).length = nB + 1 := by rw [TI.len, List.length_append, List.length_singleton, ← Nat.add_assoc, hnB]
  have lF : (TI σ0 (tes3 nB) (J1 ++ [O.tuple [vl, vb]] ++ [O.list []] ++ [O.list []])).length = nB + 1 + 2 := by rw [TI.len]; simp only [List.length_append, List.length_singleton]; omega
  have eB : TI σ0 (tes3 nB) (J1 ++ [O.tuple [vl, vb]] ++ [O.list []] ++ [O.list []]) ++ [O.tdict []] = TSt (TI σ0 (tes3 nB) (J1 ++ [O.tuple [vl, vb]])) [] [] [] [] := by rw [TI.snoc]; unfold TI TSt; simp
  have eX : [(Str.ofString "shape", V.ref nB), (Str.ofString "parents", V.ref (nB + 1)), (Str.ofString "depths", V.ref (nB + 1 + 1))] = tes3 nB := rfl
  rw [eX, eB, lF, ← lB]
  have e1 : (tes3 nB).lookup (Str.ofString "parents") = some (.ref (TI σ0 (tes3 nB) (J1 ++ [O.tuple [vl, vb]])).length) := by rw [lB]; kernel_rfl
  have e2 : (tes3 nB).lookup (Str.ofString "depths") = some (.ref ((TI σ0 (tes3 nB) (J1 ++ [O.tuple [vl, vb]])).length + 1)) := by rw [lB]; kernel_rfl
  have eadd : (tes3 nB).lookup (Str.ofString "_add") = none := by kernel_rfl
  clear eX eB lF rl rb r o rv hsh
  generalize hB : TI σ0 (tes3 nB) (J1 ++ [O.tuple [vl, vb]]) = B at *
  obtain ⟨xs, ox, lx, hx⟩ := band_at rbands
  have zx : xs.length ≤ 100000 := by rw [lx]; exact Nat.le_trans hL (Nat.le_of_ble_eq_true rfl)
  have hoff := offM_le hW hH hL hW1 hH1
  have hhl : half W L ≤ 100 ∧ half H L ≤ 100 := ⟨half_le W (by omega) L, half_le H (by omega) L⟩
  walk_at "xx"
  refine WE_meth ?_
  walk_at "xx"
  refine WM_inst (f := 176) c.K clsT (by kernel_rfl) (by kernel_rfl) (TSt.b b1) (TSt.b b2) eadd ⟨callable_K c.K (by kernel_rfl), ?_⟩
  walk_at "xx"
  rw [TSt.snoc]
  refine add_spec (ks := [.s (Str.ofString "low"), .i 0]) (ps := []) (ds := []) (fs := []) c rm.le b1 b2 e1 e2 (fun e he => nomatch he) List.nodup_nil (by simp) ?_ plow hhl.1 hhl.2 (by simp) (by simp) .none ?_
  · rw [← TSt.snoc]; exact ObjAt.new (C := C) rfl
  have ep : ([] : List Int) ++ (List.range (half H L)).flatMap (fun r => (List.range (half W L)).map ((fun (_ _ : Nat) => (-1 : Int)) r)) = psM W H L 0 := by rw [List.nil_append]; exact (flat_const (-1) _ _).trans (by simp [psM])
  have ed : ([] : List Int) ++ List.replicate (half W L * half H L) (L : Int) = dsM W H L 0 := by simp [dsM]
  have bt0 : (TSt B [] [] [] ([] ++ [O.tuple [.str (Str.ofString "low"), .int 0]]))[(TSt B [] [] [] []).length]? = some (.tuple (([.s (Str.ofString "low"), .i 0] : List Atom).map atomV)) := by rw [← TSt.snoc]; exact ObjAt.new (C := C) rfl
  have ky0 := TSt.keyed0 (Keyed.put (v := .int (([] : List Int).length : Nat)) (es := []) (fun e he => nomatch he) bt0) (psM W H L 0) (dsM W H L 0) (tput [] [.s (Str.ofString "low"), .i 0] (TSt B [] [] [] []).length (.int (([] : List Int).length : Nat)))
  have f0 : Fst W H L 0 (tput [] [.s (Str.ofString "low"), .i 0] (TSt B [] [] [] []).length (.int (([] : List Int).length : Nat))) := by
    refine ⟨tput_nodup List.nodup_nil, by simp [tput, tget], ?_, fun m' h => absurd h (by omega)⟩
    rw [tget_tput, if_pos rfl]; rfl
  rw [ep, ed]
  clear ep ed bt0
  generalize tput [] [.s (Str.ofString "low"), .i 0] (TSt B [] [] [] []).length (.int (([] : List Int).length : Nat)) = fs at *
  generalize ([] : AH) ++ [O.tuple [.str (Str.ofString "low"), .int 0]] = J at *
  walk_at "xx"
  refine WS_for (WItr_down rm.han (by walk_at "mem") ?_)
  walk_at "xx"
  refine exDown ⟨by omega, by decide, ?_⟩
  rw [show ((L : Int) - 1 - -1).toNat = L by omega]
  refine ⟨fun i ρ' σ' => ∃ J fs t1 t2 t3 t4 t5 t6 t7, σ' = TSt B (psM W H L (3 * i)) (dsM W H L (3 * i)) fs J ∧ ρ' = ([(Str.ofString "self", some (.ref (List.length σ0 + 1))), (Str.ofString "width", some (.int W)), (Str.ofString "height", some (.int H)), (Str.ofString "levels", some (.int L)), (Str.ofString "low", some vl), (Str.ofString "bands", some vb), (Str.ofString "first", some (.ref (List.length B + 2))), (Str.ofString "level", t1), (Str.ofString "kind", t2), (Str.ofString "above", t3), (Str.ofString "above_shape", t4), (Str.ofString "halve", t5), (Str.ofString "coarser", t6), (Str.ofString "k", t7)] : Loc) ∧ Keyed (TSt B (psM W H L (3 * i)) (dsM W H L (3 * i)) fs J) fs ∧ Fst W H L (3 * i) fs, ⟨J, fs, _, _, _, _, _, _, _, rfl, rfl, ky0, f0⟩, ?_, ?_⟩
  · clear ky0 f0
    rintro i ρ' σ' hi ⟨J, fs, t1, t2, t3, t4, t5, t6, t7, rfl, rfl, ky, f⟩
    refine ⟨trivial, ?_⟩
    show WAs _ _ _ _ (V.int ((L : Int) - 1 - (i : Nat))) _ _ _ _
    rw [show ((L : Int) - 1 - (i : Nat)) = ((L - 1 - i : Nat) : Int) by omega]
    walk_at "xx"
    refine WS_for (WItr_rng rm.han (by walk_at "mem") ?_)
    walk_at "xx"
    refine ⟨3, rfl, by decide, ?_⟩
    refine ⟨fun k ρ' σ' => ∃ J fs t2 t3 t4 t5 t6 t7, σ' = TSt B (psM W H L (3 * i + k)) (dsM W H L (3 * i + k)) fs J ∧ ρ' = ([(Str.ofString "self", some (.ref (List.length σ0 + 1))), (Str.ofString "width", some (.int W)), (Str.ofString "height", some (.int H)), (Str.ofString "levels", some (.int L)), (Str.ofString "low", some vl), (Str.ofString "bands", some vb), (Str.ofString "first", some (.ref (List.length B + 2))), (Str.ofString "level", (some (.int (L - 1 - i : Nat)))), (Str.ofString "kind", t2), (Str.ofString "above", t3), (Str.ofString "above_shape", t4), (Str.ofString "halve", t5), (Str.ofString "coarser", t6), (Str.ofString "k", t7)] : Loc) ∧ Keyed (TSt B (psM W H L (3 * i + k)) (dsM W H L (3 * i + k)) fs J) fs ∧ Fst W H L (3 * i + k) fs, ⟨J, fs, _, _, _, _, _, _, rfl, rfl, ky, f⟩, ?_, ?_⟩
    · clear ky f
      rintro k ρ' σ' hk ⟨J, fs, t2, t3, t4, t5, t6, t7, rfl, rfl, ky, f⟩
      refine ⟨trivial, ?_⟩
      have em : (3 * i + k) / 3 = i ∧ (3 * i + k) % 3 = k := by omega
      have hm : 3 * i + k < 3 * L := by omega
      have lps := psM_len W H L (3 * i + k)
      have lds := dsM_len W H L (3 * i + k)
      have hof := hoff (3 * i + k) (by omega)
      have esz := szM W H L (3 * i + k)
      have bq := blkM_eq W H L (3 * i + k)
      have psS := psM_succ W H L (3 * i + k)
      have dsS := dsM_succ W H L (3 * i + k)
      have fput := fun j => f.put hm j
      have fget := fun j => (fput j).get (kd := k) (i := i) hk (by omega)
      unfold szM at dsS
      rw [em.1, em.2] at bq dsS fput fget
      rw [bq] at psS
      rw [← lps] at fput fget
      have bnd : abB W H L k (abv W H L k i) ≤ 49 := by
        cases ha : abv W H L k i with
        | none => exact Nat.zero_le _
        | some t => exact hoff _ (by have := abv_lt ha; omega)
      clear bq esz
      generalize psM W H L (3 * i + k) = ps at *
      generalize dsM W H L (3 * i + k) = ds at *
      walk_at "xx"
      rw [TSt.snoc]
      refine WS_for (WItr_down rm.han (by walk_at "mem") ?_)
      walk_at "xx"
      refine exDown ⟨by omega, by omega, ?_⟩
      rw [show ((L : Int) - 1 - ((L - 1 - i : Nat) : Int)).toNat = i by omega]
      refine ⟨fun t ρ' σ' => ∃ J' ax vas t6, σ' = TSt B ps ds fs J' ∧ ρ' = ([(Str.ofString "self", some (.ref (List.length σ0 + 1))), (Str.ofString "width", some (.int W)), (Str.ofString "height", some (.int H)), (Str.ofString "levels", some (.int L)), (Str.ofString "low", some vl), (Str.ofString "bands", some vb), (Str.ofString "first", some (.ref (List.length B + 2))), (Str.ofString "level", (some (.int (L - 1 - i : Nat)))), (Str.ofString "kind", (some (.int k))), (Str.ofString "above", (some (.ref ax))), (Str.ofString "above_shape", (some vas)), (Str.ofString "halve", (some (.bool (abv W H L k t).isSome))), (Str.ofString "coarser", t6), (Str.ofString "k", t7)] : Loc) ∧ Keyed (TSt B ps ds fs J') fs ∧ (TSt B ps ds fs J')[ax]? = some (.tuple ((abK L k (abv W H L k t)).map atomV)) ∧ ObjAt C B vas (.tuple [.int (abS W H L k (abv W H L k t)).1, .int (abS W H L k (abv W H L k t)).2]),
        ⟨J ++ [O.tuple [.str (Str.ofString "low"), .int 0]], _, vl, _, rfl, rfl, TSt.keyed ky _ _ _ _, by rw [← TSt.snoc]; exact ObjAt.new (C := C) rfl, plow⟩, ?_, ?_⟩
      · clear ky
        rintro t ρ' σ' ht ⟨J', ax, vas, t6, rfl, rfl, ky, hax, hvas⟩
        refine ⟨trivial, ?_⟩
        show WAs _ _ _ _ (V.int ((L : Int) - 1 - (t : Nat))) _ _ _ _
        rw [show ((L : Int) - 1 - (t : Nat)) = ((L - 1 - t : Nat) : Int) by omega]
        obtain ⟨bl, ys, hbl, obl, zy, hys⟩ := hx (L - 1 - t) (by omega)
        obtain ⟨x, hx1, ox1⟩ := hys k hk
        walk_at "xx"
        refine WE_call (C := C) (by walk_at "mem") callable_builtin ?_
        walk_at "xx"
        refine item_listN (TSt.obj ox) zx hbl ?_
        walk_at "xx"
        refine item_tupN (TSt.obj obl) zy hx1 ?_
        walk_at "xx"
        refine WC_minT rm.han (TSt.obj ox1) ?_
        walk_at "xx"
        refine ite_b (fun hb => ?_) fun hb => ?_
        · have hb' := of_decide_eq_true hb
          have ea : abv W H L k (t + 1) = some t := by rw [abv, if_pos (by omega)]
          walk_at "xx"
          rw [TSt.snoc]
          refine item_listN (TSt.obj ox) zx hbl ?_
          walk_at "xx"
          refine item_tupN (TSt.obj obl) zy hx1 ?_
          walk_at "xx"
          refine ⟨J' ++ [O.tuple [.int k, .int (L - 1 - t : Nat)]], _, x, _, rfl, by rw [ea]; rfl, TSt.keyed ky _ _ _ _, ?_, ?_⟩
          · rw [ea, ← TSt.snoc]; exact ObjAt.new (C := C) rfl
          · rw [ea]; exact ox1
        · have hb' := of_decide_eq_false hb
          have ea : abv W H L k (t + 1) = abv W H L k t := by rw [abv, if_neg (by omega)]
          walk_at "xx"
          refine ⟨J', ax, vas, _, rfl, by rw [ea], ky, by rw [ea]; exact hax, by rw [ea]; exact hvas⟩
      · clear ky
        rintro ρ' σ' ⟨J', ax, vas, t6, rfl, rfl, ky, hax, hvas⟩
        refine ⟨trivial, ?_⟩
        obtain ⟨bl, ys, hbl, obl, zy, hys⟩ := hx (L - 1 - i) (by omega)
        obtain ⟨x, hx1, ox1⟩ := hys k hk
        have sl := bsh_le (W := W) (H := H) (l := L - 1 - i) (k := k) (by omega) (by omega)
        have sa : (abS W H L k (abv W H L k i)).1 ≤ 100 ∧ (abS W H L k (abv W H L k i)).2 ≤ 100 := by
          cases abv W H L k i with
          | none => exact hhl
          | some t => exact bsh_le (by omega) (by omega)
        walk_at "xx"
        refine WE_meth ?_
        walk_at "xx"
        refine WM_inst (f := 176) c.K clsT (by kernel_rfl) (by kernel_rfl) (TSt.b b1) (TSt.b b2) eadd ⟨callable_K c.K (by kernel_rfl), ?_⟩
        walk_at "xx"
        rw [TSt.snoc]
        refine item_listN (TSt.obj ox) zx hbl ?_
        walk_at "xx"
        refine item_tupN (TSt.obj obl) zy hx1 ?_
        walk_at "xx"
        rw [TSt.snoc]
        have e3 : TSt B ps ds fs (J' ++ [O.tuple [.int k, .int (L - 1 - i : Nat)]] ++ [O.tuple [vas, .bool (abv W H L k i).isSome]]) = TSt B ps ds fs (J' ++ [O.tuple [.int k, .int (L - 1 - i : Nat)]]) ++ [O.tuple [vas, .bool (abv W H L k i).isSome]] := TSt.snoc.symm
        have hkt : (TSt B ps ds fs (J' ++ [O.tuple [.int k, .int (L - 1 - i : Nat)]] ++ [O.tuple [vas, .bool (abv W H L k i).isSome]]))[(TSt B ps ds fs J').length]? = some (.tuple (([.i k, .i (L - 1 - i : Nat)] : List Atom).map atomV)) := by
          rw [e3, ← TSt.snoc]; exact gl_up (ObjAt.new (C := C) rfl)
        have hft : (TSt B ps ds fs (J' ++ [O.tuple [.int k, .int (L - 1 - i : Nat)]] ++ [O.tuple [vas, .bool (abv W H L k i).isSome]]))[(TSt B ps ds fs (J' ++ [O.tuple [.int k, .int (L - 1 - i : Nat)]])).length]? = some (.tuple [vas, .bool (abv W H L k i).isSome]) := by
          rw [e3]; exact ObjAt.new (C := C) rfl
        have kyy := TSt.keyed (TSt.keyed ky ps ds fs [O.tuple [.int k, .int (L - 1 - i : Nat)]]) ps ds fs [O.tuple [vas, .bool (abv W H L k i).isSome]]
        have haxx := TSt.tup (TSt.tup hax ps ds fs [O.tuple [.int k, .int (L - 1 - i : Nat)]]) ps ds fs [O.tuple [vas, .bool (abv W H L k i).isSome]]
        generalize J' ++ [O.tuple [.int k, .int (L - 1 - i : Nat)]] ++ [O.tuple [vas, .bool (abv W H L k i).isSome]] = J2 at *
        generalize (TSt B ps ds fs J').length = kt at *
        generalize (TSt B ps ds fs (J' ++ [O.tuple [.int k, .int (L - 1 - i : Nat)]])).length = ft at *
        refine add_spec (ks := [.i k, .i (L - 1 - i : Nat)]) c rm.le b1 b2 e1 e2 kyy f.nd (by have := f.len; omega) hkt ox1 sl.1 sl.2 (by omega) (by omega) (.some haxx hft (TSt.obj hvas) sa.1 sa.2 (by omega) (fget kt)) ?_
        walk_at "xx"
        refine ⟨J2, _, _, _, _, _, _, _, ?_, rfl, TSt.keyed0 (Keyed.put kyy hkt) _ _ _, fput kt⟩
        rw [show 3 * i + (k + 1) = 3 * i + k + 1 from rfl, psS, dsS]
    · clear ky f
      rintro ρ' σ' ⟨J, fs, t2, t3, t4, t5, t6, t7, rfl, rfl, ky, f⟩
      refine ⟨trivial, ?_⟩
      walk_at "xx"
      refine ⟨J, fs, _, _, _, _, _, _, _, ?_, rfl, ?_, ?_⟩
      · rw [show 3 * (i + 1) = 3 * i + 3 by omega]
      · rw [show 3 * (i + 1) = 3 * i + 3 by omega]; exact ky
      · rw [show 3 * (i + 1) = 3 * i + 3 by omega]; exact f
  clear ky0 f0
  rintro ρ' σ' ⟨J, fs, t1, t2, t3, t4, t5, t6, t7, rfl, rfl, ky, f⟩
  refine ⟨trivial, ?_⟩
  clear ky f hx ox zx lx xs
  have tok := tree_ok hW1 hW hH1 hH hL
  have lP : (psM W H L (3 * L)).length = W * H := by rw [psM_len, tok.tot]
  have hn : W * H ≤ 49 := Nat.mul_le_mul hW hH
  have htu := tok.up
  have zn : W * H ≤ 100000 := Nat.le_trans hn (Nat.le_of_ble_eq_true rfl)
  have hkf : ∀ u, (kids (psM W H L (3 * L)) u) = (List.range (W * H)).filter fun c => (psM W H L (3 * L)).getD c 0 == (u : Int) := fun u => by rw [kids, lP]
  have rsh : Rd C (TSt B (psM W H L (3 * L)) (dsM W H L (3 * L)) fs J) (.ref nB) (shD W H L) := rshape.up
  have hS : ∃ K0, TSt B (psM W H L (3 * L)) (dsM W H L (3 * L)) fs J = TI σ0 (tes3 nB) K0 := ⟨J1 ++ [O.tuple [vl, vb]] ++ ([O.list ((psM W H L (3 * L)).map .int), O.list ((dsM W H L (3 * L)).map .int), .tdict fs] ++ J), by unfold TSt; rw [← hB, TI.snoc]⟩
  have sp : (TSt B (psM W H L (3 * L)) (dsM W H L (3 * L)) fs J)[nB + 1]? = some (.list ((psM W H L (3 * L)).map .int)) := by rw [← lB]; exact TSt.p
  have sd : (TSt B (psM W H L (3 * L)) (dsM W H L (3 * L)) fs J)[nB + 1 + 1]? = some (.list ((dsM W H L (3 * L)).map .int)) := by rw [← lB]; exact TSt.d
  obtain ⟨K0, hK0⟩ := hS
  rw [hK0] at rsh sp sd ⊢
  clear rshape plow rbands b1 b2 e1 e2 eadd hB hK0 hoff hhl
  generalize hfirst : (V.ref (B.length + 2)) = vfirst
  clear hfirst lB B
  generalize hP : psM W H L (3 * L) = P at *
  generalize hD : dsM W H L (3 * L) = D at *
  generalize hnn : W * H = n at *
  have atP : ∀ {es : List (Str × V)} {K : AH} {Q : V → AH → Prop} {E : EX}, es.lookup (Str.ofString "parents") = some (.ref (nB + 1)) → Q (.ref (nB + 1)) (TI σ0 es K) → WAt (C.wg _) (A.deeper env) (.ref (σ0.length + 1)) (Str.ofString "parents") (TI σ0 es K) Q E := fun he hq => at_inst c.K clsT (by kernel_rfl) TI.inst TI.ns he rfl hq
  walk_at "xx"
  refine WS_setattrC ?_
  refine WE_ListComp2 (C := C) (l2 := []) (capt := []) henv (by show compOk _ _ _ [] [] = true; decide +kernel) (by simp) (by simp) (by simp) ?_
  refine WItr_of ?_
  walk_at "xx"
  refine atP (by kernel_rfl) ?_
  refine ⟨_, _, _, Itb_list rm.han (show ObjAt _ _ (.ref (nB + 1)) _ from sp), ?_⟩
  rw [List.length_map, lP]
  refine ⟨sz_le (Nat.le_refl _) zn, fun i acc σ' => σ' = TI σ0 (tes3 nB) K0 ++ (List.range i).map (fun _ => O.list []) ∧ acc = (List.range i).map (fun k => V.ref ((TI σ0 (tes3 nB) K0).length + k)), ⟨by simp, rfl⟩, ?_, ?_⟩
  · rintro i acc σ' pv hi hp ⟨rfl, rfl⟩
    refine ⟨ObjAt.up (show ObjAt C _ (.ref (nB + 1)) _ from sp), fun cenv hc => WIf_nil ?_⟩
    rw [if_pos rfl]
    walk_at "xx"
    refine ⟨?_, ?_⟩
    · rw [List.range_succ, List.map_append, List.append_assoc]; rfl
    · rw [List.range_succ, List.map_append, List.length_append]; simp
  rintro acc σ' ⟨rfl, rfl⟩
  refine ⟨ObjAt.up (show ObjAt C _ (.ref (nB + 1)) _ from sp), ?_⟩
  show WE _ _ _ _ _ _ _ _
  walk_at "xx"
  have lX : ∀ es, (TI σ0 es K0).length = (TI σ0 (tes3 nB) K0).length := fun es => by rw [TI.len, TI.len]
  generalize hjc : (TI σ0 (tes3 nB) K0 ++ (List.range n).map (fun _ => O.list [])).length = jc
  rw [TI.snoc, TI.snoc]
  refine set_TI c (by kernel_rfl) (by simp [tes3]) (by show [Str.ofString "shape", Str.ofString "parents", Str.ofString "depths"].contains (Str.ofString "children") = false; decide +kernel) ?_
  have eX : tes3 nB ++ [(Str.ofString "children", V.ref jc)] = tes nB (nB + 1) (nB + 1 + 1) jc := rfl
  rw [eX, ← TI.snoc, ← TI.snoc]
  have rsh2 : Rd C (TI σ0 (tes nB (nB + 1) (nB + 1 + 1) jc) K0) (.ref nB) (shD W H L) := rsh.sh TI.sh
  have sp2 : (TI σ0 (tes nB (nB + 1) (nB + 1 + 1) jc) K0)[nB + 1]? = some (.list (P.map .int)) := TI.sh.l _ _ sp
  have sd2 : (TI σ0 (tes nB (nB + 1) (nB + 1 + 1) jc) K0)[nB + 1 + 1]? = some (.list (D.map .int)) := TI.sh.l _ _ sd
  have i2 : (TI σ0 (tes nB (nB + 1) (nB + 1 + 1) jc) K0)[σ0.length + 1]? = some (.inst 207 σ0.length) := TI.inst
  have n2 : (TI σ0 (tes nB (nB + 1) (nB + 1 + 1) jc) K0)[σ0.length]? = some (.ns (tes nB (nB + 1) (nB + 1 + 1) jc)) := TI.ns
  have hjc2 : jc = (TI σ0 (tes nB (nB + 1) (nB + 1 + 1) jc) K0).length + n := by
    have h := hjc
    rw [List.length_append, List.length_map, List.length_range] at h
    rw [lX]; exact h.symm
  rw [← lX (tes nB (nB + 1) (nB + 1 + 1) jc)]
  have hfin : ∃ J, ∀ K, TI σ0 (tes nB (nB + 1) (nB + 1 + 1) jc) K0 ++ K = σ0 ++ (J ++ K) := ⟨[O.ns (tes nB (nB + 1) (nB + 1 + 1) jc), .inst 207 σ0.length] ++ K0, fun K => by unfold TI; simp⟩
  clear rsh sp sd hjc eX atP lX
  generalize TI σ0 (tes nB (nB + 1) (nB + 1 + 1) jc) K0 = X at *
  have atP : ∀ {Q : V → AH → Prop} {E : EX} {K : AH}, Q (.ref (nB + 1)) (X ++ K) → WAt (C.wg _) (A.deeper env) (.ref (σ0.length + 1)) (Str.ofString "parents") (X ++ K) Q E := fun hq => at_inst c.K clsT (by kernel_rfl) (gl_up i2) (gl_up n2) (by kernel_rfl) rfl hq
  have atC : ∀ {Q : V → AH → Prop} {E : EX} {K : AH}, Q (.ref jc) (X ++ K) → WAt (C.wg _) (A.deeper env) (.ref (σ0.length + 1)) (Str.ofString "children") (X ++ K) Q E := fun hq => at_inst c.K clsT (by kernel_rfl) (gl_up i2) (gl_up n2) (by kernel_rfl) rfl hq
  have zP : P.length ≤ 100000 := by rw [lP]; exact zn
  have getP : ∀ {K : AH}, ObjAt C (X ++ K) (.ref (nB + 1)) (.list (P.map .int)) := fun {K} => gl_up sp2
  let kU : Nat → Nat → List Int := fun k u => ((List.range k).filter fun c => P.getD c 0 == (u : Int)).map fun (c : Nat) => (c : Int)
  let M : Nat → AH := fun k => (List.range n).map fun u => O.list ((kU k u).map .int)
  have lM : ∀ k, (M k).length = n := fun k => by simp [M]
  have getC : ∀ k, ObjAt C (X ++ (M k ++ [O.list ((List.range n).map fun k => V.ref (X.length + k))])) (.ref jc) (.list ((List.range n).map fun k => V.ref (X.length + k))) := fun k => by
    rw [← List.append_assoc]; exact ObjAt.new (by rw [List.length_append, lM, hjc2])
  have getM : ∀ k u, u < n → (X ++ (M k ++ [O.list ((List.range n).map fun k => V.ref (X.length + k))]))[X.length + u]? = some (.list ((kU k u).map .int)) := fun k u hu => by
    rw [List.getElem?_append_right (by omega), Nat.add_sub_cancel_left, List.getElem?_append_left (by rw [lM]; exact hu)]
    simp [M, hu]
  have e0M : X ++ (List.range n).map (fun _ => O.list []) ++ [O.list ((List.range n).map fun k => V.ref (X.length + k))] = X ++ (M 0 ++ [O.list ((List.range n).map fun k => V.ref (X.length + k))]) := by rw [List.append_assoc]; rfl
  rw [e0M]
  walk_at "xx"
  refine WS_for (WItr_rng rm.han (by walk_at "mem") ?_)
  walk_at "xx"
  refine WE_call (C := C) (by walk_at "mem") callable_builtin ?_
  walk_at "xx"
  refine atP ?_
  walk_at "xx"
  refine WC_lenI getP lP zn ?_
  walk_at "xx"
  refine exRng zn ?_
  refine ⟨fun k ρ' σ' => ∃ t7, σ' = X ++ (M k ++ [O.list ((List.range n).map fun k => V.ref (X.length + k))]) ∧ ρ' = ([(Str.ofString "self", some (.ref (List.length σ0 + 1))), (Str.ofString "width", some (.int W)), (Str.ofString "height", some (.int H)), (Str.ofString "levels", some (.int L)), (Str.ofString "low", some vl), (Str.ofString "bands", some vb), (Str.ofString "first", some vfirst), (Str.ofString "level", t1), (Str.ofString "kind", t2), (Str.ofString "above", t3), (Str.ofString "above_shape", t4), (Str.ofString "halve", t5), (Str.ofString "coarser", t6), (Str.ofString "k", t7)] : Loc), ⟨_, rfl, rfl⟩, ?_, ?_⟩
  · rintro k ρ' σ' hk ⟨t7, rfl, rfl⟩
    refine ⟨trivial, ?_⟩
    have up := htu k hk
    have kP : k < P.length := by rw [lP]; exact hk
    walk_at "xx"
    refine atP ?_
    walk_at "xx"
    refine item_intN getP zP kP ?_
    walk_at "xx"
    refine ite_b (fun hb => ?_) fun hb => ?_
    · have hb' := of_decide_eq_true hb
      obtain ⟨u, hu⟩ : ∃ u : Nat, P.getD k 0 = (u : Int) := Int.eq_ofNat_of_zero_le hb'
      rw [hu] at up
      have hun : u < n := Nat.lt_trans (Int.ofNat_lt.mp up) hk
      walk_at "xx"
      refine WE_meth ?_
      walk_at "xx"
      refine atC ?_
      walk_at "xx"
      refine atP ?_
      walk_at "xx"
      refine item_intN getP zP kP ?_
      refine item_listE (x := .ref (X.length + u)) (getC k) hu (by simpa using zn) (by simp [hun]) ?_
      refine WM_append (getM k u hun) ⟨callable_builtin, ?_⟩
      walk_at "xx"
      refine WC_appE (n := k) (getM k u hun) (by
        have := List.length_filter_le (fun c => P.getD c 0 == (u : Int)) (List.range k)
        rw [List.length_range] at this
        rw [List.length_map, List.length_map]
        exact this) (Nat.le_trans (Nat.le_of_lt hk) zn) ?_
      walk_at "xx"
      refine ⟨_, ?_, rfl⟩
      rw [List.set_append_right _ _ (by omega), Nat.add_sub_cancel_left, List.set_append_left _ _ (by rw [lM]; exact hun)]
      congr 2
      refine set_map_range hun fun j hj => ?_
      show O.list ((((List.range (k + 1)).filter fun c => P.getD c 0 == (j : Int)).map fun (c : Nat) => (c : Int)).map .int) = _
      rw [kidsUp, hu]
      by_cases e : j = u
      · subst e; rw [if_pos rfl, if_pos rfl]; simp [kU]
      · rw [if_neg (fun h => e (Int.ofNat_inj.mp h).symm), if_neg e]
    · have hb' := of_decide_eq_false hb
      walk_at "xx"
      refine ⟨_, ?_, rfl⟩
      congr 2
      refine List.map_congr_left fun j hj => ?_
      show _ = O.list ((((List.range (k + 1)).filter fun c => P.getD c 0 == (j : Int)).map fun (c : Nat) => (c : Int)).map .int)
      rw [kidsUp, if_neg (fun h => hb' (by rw [h]; exact Int.natCast_nonneg j))]
  · rintro ρ' σ' ⟨t7, rfl, rfl⟩
    refine ⟨trivial, ?_⟩
    walk_at "xx"
    obtain ⟨JJ, hJJ⟩ := hfin
    show Q .none _
    rw [hJJ]
    refine hq _ ?_
    rw [← hJJ]
    refine ⟨σ0.length, nB, nB + 1, nB + 1 + 1, jc, gl_up i2, gl_up n2, rsh2.up, by rw [hP]; exact gl_up sp2, by rw [hD]; exact gl_up sd2, ?_⟩
    rw [hP, hnn]
    refine .list (getC n) (RdAll.range fun u hu => ?_)
    rw [hkf u]
    exact Rd.lst (getM n u hu)
theorem at_parents {C : Cx} {A : Around} {σ : AH} {E : EX} {Q : V → AH → Prop} {t d js jp jd jc : Nat} (c : Law C) (h1 : σ[t]? = some (.inst 207 d)) (h2 : σ[d]? = some (.ns (tes js jp jd jc))) (hq : Q (.ref jp) σ) : WAt C A (.ref t) (Str.ofString "parents") σ Q E := at_inst c.K clsT (by kernel_rfl) h1 h2 (by kernel_rfl) rfl hq
theorem at_depths {C : Cx} {A : Around} {σ : AH} {E : EX} {Q : V → AH → Prop} {t d js jp jd jc : Nat} (c : Law C) (h1 : σ[t]? = some (.inst 207 d)) (h2 : σ[d]? = some (.ns (tes js jp jd jc))) (hq : Q (.ref jd) σ) : WAt C A (.ref t) (Str.ofString "depths") σ Q E := at_inst c.K clsT (by kernel_rfl) h1 h2 (by kernel_rfl) rfl hq
theorem at_children {C : Cx} {A : Around} {σ : AH} {E : EX} {Q : V → AH → Prop} {t d js jp jd jc : Nat} (c : Law C) (h1 : σ[t]? = some (.inst 207 d)) (h2 : σ[d]? = some (.ns (tes js jp jd jc))) (hq : Q (.ref jc) σ) : WAt C A (.ref t) (Str.ofString "children") σ Q E := at_inst c.K clsT (by kernel_rfl) h1 h2 (by kernel_rfl) rfl hq
theorem at_shape {C : Cx} {A : Around} {σ : AH} {E : EX} {Q : V → AH → Prop} {t d js jp jd jc : Nat} (c : Law C) (h1 : σ[t]? = some (.inst 207 d)) (h2 : σ[d]? = some (.ns (tes js jp jd jc))) (hq : Q (.ref js) σ) : WAt C A (.ref t) (Str.ofString "shape") σ Q E := at_inst c.K clsT (by kernel_rfl) h1 h2 (by kernel_rfl) rfl hq
theorem WM_tree {C : Cx} {A : Around} {σ : AH} {E : EX} {K : Value → List V → AH → Prop} {t W H L : Nat} {f : Addr} {name : Str} (c : Law C) (T : TreeAt C σ t W H L) (h1 : findIn (hd.heap_39 C.w.params) (.ref 207) name = some (some (.ref f))) (h2 : typeIn (hd.heap_39 C.w.params) (.ref f) = some (.type "function"))
    (h3 : ([Str.ofString "shape", Str.ofString "parents", Str.ofString "depths", Str.ofString "children"].contains name) = false) (hk : K (.ref f) [.ref t] σ) : WM C A (.ref t) name σ K E := by
  obtain ⟨d, js, jp, jd, jc, g1, g2, _⟩ := T.ex
  refine WM_inst (f := f) c.K clsT h1 h2 g1 g2 ?_ hk
  simp only [List.contains_cons, List.contains_nil, Bool.or_eq_false_iff] at h3
  simp [tes, List.lookup_cons, h3]
theorem gu_spec {C : Cx} {A : Around} {σ : AH} {E : EX} {Q : V → AH → Prop} {t W H L : Nat} {vv : V} {v : List Int} (c : Law C) (rm : Room A 1) (T : TreeAt C σ t W H L) (ok : TreeOk W H L) (hn : W * H ≤ 49) (ov : Rd C σ vv (rowI v)) (lv : v.length = W * H)
    (hq : ∀ u J, Rd C (σ ++ J) u (rowI (guP (psM W H L (3 * L)) v (W * H) (W * H - 1))) → Q u (σ ++ J)) : WC C A (.ref 204) [.ref t, vv] σ Q E := by
  refine WC_def (pn := [Str.ofString "self", Str.ofString "values"]) (ln := [Str.ofString "out", Str.ofString "k", Str.ofString "up"]) (gl := [(Str.ofString "len", Value.builtin "len"), (Str.ofString "range", Value.type "range"), (Str.ofString "max", Value.builtin "max"), (Str.ofString "abs", Value.builtin "abs")]) (dv := []) (ds := []) (c.K _ _ rfl) rfl (codeRec_of c.K (by kernel_rfl)) (by first | exact Room.dep0 (by assumption) | assumption | omega | exact Nat.le_of_ble_eq_true rfl) .nil rfl (fun x v h => c.glo x v ((show ∀ p ∈ ([(Str.ofString "len", Value.builtin "len"), (Str.ofString "range", Value.type "range"), (Str.ofString "max", Value.builtin "max"), (Str.ofString "abs", Value.builtin "abs")] : List (Str × Value)), p ∈ lawGlo by decide +kernel) (x, v) h)) ?_ (by decide +kernel) (by decide +kernel) (by decide +kernel) (by decide +kernel) ?_
  · intro s xs hkp hl
    obtain ⟨x0, x1, rfl⟩ := len2 hl
    first | exact BindsTo.of_eq rfl | exact BindsTo.of_defaults rfl (hkp _ _ (c.K _ _ rfl)) rfl rfl rfl
  intro env henv
  replace c := c.wg [(Str.ofString "len", Value.builtin "len"), (Str.ofString "range", Value.type "range"), (Str.ofString "max", Value.builtin "max"), (Str.ofString "abs", Value.builtin "abs")]
  show WSs (C.wg [(Str.ofString "len", Value.builtin "len"), (Str.ofString "range", Value.type "range"), (Str.ofString "max", Value.builtin "max"), (Str.ofString "abs", Value.builtin "abs")]) _ _ _ [(Str.ofString "self", some (.ref t)), (Str.ofString "values", some (vv)), (Str.ofString "out", none), (Str.ofString "k", none), (Str.ofString "up", none)] _ _ _
  have rm := rm.deep (env := env)
  obtain ⟨d, js, jp, jd, jc, h1, h2, h3, h4, h5, h6⟩ := T.ex
  have ov' := ov.rowI_inv
  have hP : (psM W H L (3 * L)).length = W * H := by rw [psM_len, ok.tot]
  have zn : W * H ≤ 100000 := Nat.le_trans hn (Nat.le_of_ble_eq_true rfl)
  walk_at "xx"
  refine WE_call (C := C) (by walk_at "mem") callable_builtin ?_
  walk_at "xx"
  refine WC_lenI ov'.up lv zn ?_
  refine mul_li (xs := [.int 0]) (by simp) (by omega) (by omega) (by rw [Int.toNat_natCast]; simp; omega) ?_
  rw [rep_one, Int.toNat_natCast]
  walk_at "xx"
  rw [show (σ ++ [O.list [V.int 0]]).length = σ.length + 1 by simp]
  refine WS_for (WItr_down rm.han (by walk_at "mem") ?_)
  walk_at "xx"
  refine WE_call (C := C) (by walk_at "mem") callable_builtin ?_
  walk_at "xx"
  refine WC_lenI ov'.up.up lv zn ?_
  walk_at "xx"
  refine exDown ⟨by omega, by decide, ?_⟩
  rw [show ((W * H : Nat) : Int) - 1 - 0 = ((W * H : Nat) : Int) - 1 by omega]
  have en : (((W * H : Nat) : Int) - 1).toNat = W * H - 1 := by omega
  rw [en]
  have tup := ok.up
  generalize hps : psM W H L (3 * L) = P at *
  generalize hnn : W * H = n at *
  refine ⟨fun i ρ' σ' => ∃ t1 t2, σ' = σ ++ [O.list [.int 0]] ++ [O.list ((guP P v n i).map .int)] ∧ ρ' = ([(Str.ofString "self", some (.ref t)), (Str.ofString "values", some vv), (Str.ofString "out", some (.ref (List.length σ + 1))), (Str.ofString "k", t1), (Str.ofString "up", t2)] : Loc), ⟨_, _, by simp [guP], rfl⟩, ?_, ?_⟩
  · rintro i ρ' σ' hi ⟨t1, t2, rfl, rfl⟩
    refine ⟨trivial, ?_⟩
    have ek : ((n : Int) - 1 - (i : Nat)) = ((n - 1 - i : Nat) : Int) := by omega
    show WAs _ _ _ _ (V.int ((n : Int) - 1 - (i : Nat))) _ _ _ _
    rw [ek]
    have hk : n - 1 - i < n := by omega
    generalize hkk : n - 1 - i = k at *
    have gl := guP_len P v n i
    have up := tup k hk
    have kP : k < P.length := by rw [hP]; exact hk
    have zP : P.length ≤ 100000 := by rw [hP]; exact zn
    have gi := guP_succ P v n i
    rw [hkk] at gi
    generalize guP P v n i = g at *
    walk_at "xx"
    refine at_parents c (gl_up (gl_up h1)) (gl_up (gl_up h2)) ?_
    walk_at "xx"
    refine item_intN (show ObjAt _ _ (.ref jp) _ from gl_up (gl_up h4)) zP kP ?_
    walk_at "xx"
    have og : ObjAt C (σ ++ [O.list [.int 0]] ++ [O.list (g.map .int)]) (.ref (σ.length + 1)) (.list (g.map .int)) := ObjAt.new (by simp)
    refine ite_b (fun hb => ?_) fun hb => ?_
    · have hb' := of_decide_eq_true hb
      obtain ⟨u, hu⟩ : ∃ u : Nat, P.getD k 0 = (u : Int) := Int.eq_ofNat_of_zero_le hb'
      have ug : u < g.length := by rw [gl]; rw [hu] at up; exact Nat.lt_trans (Int.ofNat_lt.mp up) hk
      have kg : k < g.length := by rw [gl]; exact hk
      have kv : k < v.length := by rw [lv]; exact hk
      have zg : g.length ≤ 100000 := by rw [gl]; exact zn
      walk_at "xx"
      refine WE_call (C := C) (by walk_at "mem") callable_builtin ?_
      walk_at "xx"
      refine item_intE og hu zg ug ?_
      walk_at "xx"
      refine item_intN og zg kg ?_
      walk_at "xx"
      refine WE_call (C := C) (by walk_at "mem") callable_builtin ?_
      walk_at "xx"
      refine item_intN ov'.up.up (by rw [lv]; exact zn) kv ?_
      walk_at "xx"
      refine WC_abs ?_
      walk_at "xx"
      refine WC_max3 rm.han ?_
      walk_at "xx"
      refine seti_intE og hu zg ug ?_
      walk_at "xx"
      refine ⟨_, _, ?_, rfl⟩
      rw [gi, guStep, if_pos hb', hu, Int.toNat_natCast, List.set_append_right _ _ (by simp)]
      simp [av]
    · have hb' := of_decide_eq_false hb
      walk_at "xx"
      refine ⟨_, _, ?_, rfl⟩
      rw [gi, guStep, if_neg hb']
  · rintro ρ' σ' ⟨t1, t2, rfl, rfl⟩
    refine ⟨trivial, ?_⟩
    walk_at "xx"
    have := hq (.ref (σ.length + 1)) ([O.list [.int 0]] ++ [O.list ((guP P v n (n - 1)).map .int)])
    rw [← List.append_assoc] at this
    exact this (Rd.lst (ObjAt.new (by simp)))
theorem size_spec {C : Cx} {A : Around} {σ : AH} {E : EX} {Q : V → AH → Prop} {t W H L : Nat} (c : Law C) (rm : Room A 1) (T : TreeAt C σ t W H L) (ok : TreeOk W H L) (hn : W * H ≤ 49) (hq : Q (.int (W * H : Nat)) σ) : WC C A (.ref 183) [.ref t] σ Q E := by
  refine WC_def (pn := [Str.ofString "self"]) (ln := []) (gl := [(Str.ofString "len", Value.builtin "len")]) (dv := []) (ds := []) (c.K _ _ rfl) rfl (codeRec_of c.K (by kernel_rfl)) (by first | exact Room.dep0 (by assumption) | assumption | omega | exact Nat.le_of_ble_eq_true rfl) .nil rfl (fun x v h => c.glo x v ((show ∀ p ∈ ([(Str.ofString "len", Value.builtin "len")] : List (Str × Value)), p ∈ lawGlo by decide +kernel) (x, v) h)) ?_ (by decide +kernel) (by decide +kernel) (by decide +kernel) (by decide +kernel) ?_
  · intro s xs hkp hl
    obtain ⟨x0, rfl⟩ := len1 hl
    first | exact BindsTo.of_eq rfl | exact BindsTo.of_defaults rfl (hkp _ _ (c.K _ _ rfl)) rfl rfl rfl
  intro env henv
  replace c := c.wg [(Str.ofString "len", Value.builtin "len")]
  show WSs (C.wg [(Str.ofString "len", Value.builtin "len")]) _ _ _ [(Str.ofString "self", some (.ref t))] _ _ _
  obtain ⟨d, js, jp, jd, jc, h1, h2, h3, h4, h5, h6⟩ := T.ex
  have hP : (psM W H L (3 * L)).length = W * H := by rw [psM_len, ok.tot]
  walk_at "xx"
  refine WE_call (C := C) (by walk_at "mem") callable_builtin ?_
  walk_at "xx"
  refine at_parents c h1 h2 ?_
  walk_at "xx"
  refine WC_len (show ObjAt _ _ (.ref jp) _ from h4) (by rw [List.length_map, hP]; omega) ?_
  walk_at "xx"
  rw [List.length_map, hP]
  exact hq
theorem pg_spec : ∀ (f : Nat) {C : Cx} {A : Around} {σ : AH} {E : EX} {Q : V → AH → Prop} {vc vv : V} {P v : List Int} {n k : Nat} (c : Law C) (rm : Room A (f + 1)) (oc : Rd C σ vc (kidD P n)) (ov : Rd C σ vv (rowI v)) (lP : P.length = n) (lv : v.length = n) (hn : n ≤ 49) (hP : ∀ c, c < n → P.getD c 0 < (c : Int)) (hk : k < n) (hf : n ≤ k + f)
    (hq : Q (.int (grt P v f k)) σ), WC C A (.ref 225) [vc, vv, .int k] σ Q E := by
  intro f
  induction f with
  | zero => intro C A σ E Q vc vv P v n k c rm oc ov lP lv hn hP hk hf hq; omega
  | succ f ih =>
  intro C A σ E Q vc vv P v n k c rm oc ov lP lv hn hP hk hf hq
  refine WC_def (pn := [Str.ofString "children", Str.ofString "values", Str.ofString "k"]) (ln := [Str.ofString "out", Str.ofString "child"]) (gl := [(Str.ofString "max", Value.builtin "max"), (Str.ofString "abs", Value.builtin "abs"), (Str.ofString "plain_greatest", Value.ref 225)]) (dv := []) (ds := []) (c.K _ _ rfl) rfl (codeRec_of c.K (by kernel_rfl)) (by first | exact Room.dep0 (by assumption) | assumption | omega | exact Nat.le_of_ble_eq_true rfl) .nil rfl (fun x v h => c.glo x v ((show ∀ p ∈ ([(Str.ofString "max", Value.builtin "max"), (Str.ofString "abs", Value.builtin "abs"), (Str.ofString "plain_greatest", Value.ref 225)] : List (Str × Value)), p ∈ lawGlo by decide +kernel) (x, v) h)) ?_ (by decide +kernel) (by decide +kernel) (by decide +kernel) (by decide +kernel) ?_
  · intro s xs hkp hl
    obtain ⟨x0, x1, x2, rfl⟩ := len3 hl
    first | exact BindsTo.of_eq rfl | exact BindsTo.of_defaults rfl (hkp _ _ (c.K _ _ rfl)) rfl rfl rfl
  intro env henv
  replace c := c.wg [(Str.ofString "max", Value.builtin "max"), (Str.ofString "abs", Value.builtin "abs"), (Str.ofString "plain_greatest", Value.ref 225)]
  show WSs (C.wg [(Str.ofString "max", Value.builtin "max"), (Str.ofString "abs", Value.builtin "abs"), (Str.ofString "plain_greatest", Value.ref 225)]) _ _ _ [(Str.ofString "children", some (vc)), (Str.ofString "values", some (vv)), (Str.ofString "k", some (.int k)), (Str.ofString "out", none), (Str.ofString "child", none)] _ _ _
  have rm := rm.deep (env := env)
  obtain ⟨xs, o, r⟩ := oc.list_inv
  obtain ⟨x, hx, rx⟩ := r.get (i := k) (d := rowI ((kids P k).map fun (c : Nat) => (c : Int))) (by simp [hk])
  have ox := rx.rowI_inv
  have ov' := ov.rowI_inv
  have lk : (kids P k).length ≤ n := by
    have := List.length_filter_le (fun c => P.getD c 0 == (k : Int)) (List.range P.length)
    rw [List.length_range] at this
    show (List.filter _ _).length ≤ n
    omega
  walk_at "xx"
  refine WS_for (WItr_of ?_)
  walk_at "xx"
  refine item_list o (by omega) (by omega) (by rw [Int.toNat_natCast]; exact hx) ?_
  refine ⟨_, _, _, Itb_list rm.han ox, ?_⟩
  rw [List.length_map, List.length_map]
  refine ⟨fun i ρ' σ' => σ' = σ ∧ ∃ t1, ρ' = ([(Str.ofString "children", some vc), (Str.ofString "values", some vv), (Str.ofString "k", some (.int k)), (Str.ofString "out", some (.int (((kids P k).take i).foldl (fun o c => max (max o (av v c)) (grt P v f c)) 0))), (Str.ofString "child", t1)] : Loc), ⟨rfl, _, rfl⟩, ?_, ?_⟩
  · rintro i ρ' σ' hi ⟨rfl, t1, rfl⟩
    refine ⟨ox, ?_⟩
    obtain ⟨ch, hch⟩ : ∃ ch, (kids P k)[i]? = some ch := ⟨(kids P k)[i], by simp [hi]⟩
    obtain ⟨hc1, hc2⟩ := mem_kids.mp (List.mem_of_getElem? hch)
    have hc3 := hP ch (by omega)
    have e : (((kids P k).map fun (c : Nat) => (c : Int)).map V.int).getD i .none = .int ch := by simp [List.getD, hch]
    rw [e]
    walk_at "xx"
    refine WE_call (C := C) (by walk_at "mem") callable_builtin ?_
    walk_at "xx"
    refine WE_call (C := C) (by walk_at "mem") callable_builtin ?_
    walk_at "xx"
    refine item_list ov' (by omega) (by omega) (getD_int _ _ (by omega)) ?_
    walk_at "xx"
    refine WC_abs ?_
    walk_at "xx"
    refine WE_call (C := C) (by walk_at "mem") c.c225 ?_
    walk_at "xx"
    refine ih c rm oc.wg ov.wg lP lv hn hP (by omega) (by omega) ?_
    walk_at "xx"
    refine WC_max3 rm.han ?_
    walk_at "xx"
    refine ⟨rfl, some (.int ch), ?_⟩
    rw [List.take_add_one, hch, List.foldl_append, Int.toNat_natCast]
    rfl
  · rintro ρ' σ' ⟨rfl, t1, rfl⟩
    refine ⟨ox, ?_⟩
    walk_at "xx"
    rw [List.take_length]
    exact hq
theorem get_last {σ : AH} {o : O} {n : Nat} (e : n = σ.length) : (σ ++ [o])[n]? = some o := by subst e; simp
theorem take_flat_len {M : List (List Int)} (r : Nat) : (M.take r).flatten.length ≤ M.flatten.length := by
  have := congrArg (fun x => (List.flatten x).length) (List.take_append_drop r M)
  simp only [List.flatten_append, List.length_append] at this
  omega
theorem flatB_mono (low : List (List Int)) (B : Nat → Nat → List (List Int)) (L : Nat) : ∀ (k m : Nat), (flatB low B L m).length ≤ (flatB low B L (m + k)).length
  | 0, m => Nat.le_refl _
  | k + 1, m => by have := flatB_mono low B L k m; rw [show m + (k + 1) = (m + k) + 1 from rfl, flatB_succ, List.length_append]; omega
theorem take_flat_succ {M : List (List Int)} {r : Nat} {x : List Int} (h : M[r]? = some x) : (M.take (r + 1)).flatten = (M.take r).flatten ++ x := by
  rw [List.take_add_one, h, List.flatten_append]; simp
theorem flat_spec {C : Cx} {A : Around} {σ : AH} {E : EX} {Q : V → AH → Prop} {t j L : Nat} {vl vb : V} {low : List (List Int)} {B : Nat → Nat → List (List Int)} (c : Law C) (rm : Room A 1) (hj : σ[j]? = some (.ns [(Str.ofString "low", vl), (Str.ofString "bands", vb)])) (rl : Rd C σ vl (matD low)) (rb : Rd C σ vb (.list ((List.range L).map (bandD B)))) (htot : (flatB low B L (3 * L)).length ≤ 10000)
    (hq : ∀ u J, Rd C (σ ++ J) u (rowI (flatB low B L (3 * L))) → Q u (σ ++ J)) : WC C A (.ref 190) [.ref t, .ref j] σ Q E := by
  refine WC_def (pn := [Str.ofString "self", Str.ofString "parts"]) (ln := [Str.ofString "out", Str.ofString "row", Str.ofString "band", Str.ofString "rows"]) (gl := [(Str.ofString "reversed", Value.type "reversed")]) (dv := []) (ds := []) (c.K _ _ rfl) rfl (codeRec_of c.K (by kernel_rfl)) (by first | exact Room.dep0 (by assumption) | assumption | omega | exact Nat.le_of_ble_eq_true rfl) .nil rfl (fun x v h => c.glo x v ((show ∀ p ∈ ([(Str.ofString "reversed", Value.type "reversed")] : List (Str × Value)), p ∈ lawGlo by decide +kernel) (x, v) h)) ?_ (by decide +kernel) (by decide +kernel) (by decide +kernel) (by decide +kernel) ?_
  · intro s xs hkp hl
    obtain ⟨x0, x1, rfl⟩ := len2 hl
    first | exact BindsTo.of_eq rfl | exact BindsTo.of_defaults rfl (hkp _ _ (c.K _ _ rfl)) rfl rfl rfl
  intro env henv
  replace c := c.wg [(Str.ofString "reversed", Value.type "reversed")]
  show WSs (C.wg [(Str.ofString "reversed", Value.type "reversed")]) _ _ _ [(Str.ofString "self", some (.ref t)), (Str.ofString "parts", some (.ref j)), (Str.ofString "out", none), (Str.ofString "row", none), (Str.ofString "band", none), (Str.ofString "rows", none)] _ _ _
  have rm := rm.deep (env := env)
  have nd : ((([(Str.ofString "low", vl), (Str.ofString "bands", vb)] : List (Str × V))).map (·.1)).Nodup := by show [Str.ofString "low", Str.ofString "bands"].Nodup; decide +kernel
  have mono : ∀ m, m ≤ 3 * L → (flatB low B L m).length ≤ 10000 := fun m hm => by
    have := flatB_mono low B L (3 * L - m) m
    rw [show m + (3 * L - m) = 3 * L by omega] at this; omega
  obtain ⟨xs, ox, lx, hx⟩ := rl.mat
  walk_at "xx"
  refine WS_for (WItr_of ?_)
  walk_at "xx"
  refine item_dict (v := vl) (gl_up hj) nd (by kernel_rfl) ?_
  refine ⟨_, _, _, Itb_list rm.han ox.up, ?_⟩
  refine ⟨fun i ρ' σ' => ∃ t1 t2 t3, σ' = σ ++ [O.list ((low.take i).flatten.map .int)] ∧ ρ' = ([(Str.ofString "self", some (.ref t)), (Str.ofString "parts", some (.ref j)), (Str.ofString "out", some (.ref (List.length σ))), (Str.ofString "row", t1), (Str.ofString "band", t2), (Str.ofString "rows", t3)] : Loc), ⟨_, _, _, by simp, rfl⟩, ?_, ?_⟩
  · rintro i ρ' σ' hi ⟨t1, t2, t3, rfl, rfl⟩
    refine ⟨ox.up, ?_⟩
    rw [lx] at hi
    have hr0 : low[i]? = some low[i] := by simp [hi]
    obtain ⟨x, hx1, rx⟩ := hx i low[i] hr0
    have e : xs.getD i .none = x := by rw [List.getD, hx1]; rfl
    rw [e]
    have es := take_flat_succ hr0
    have b1 := take_flat_len (M := low) (i + 1)
    have b2 : low.flatten.length ≤ 10000 := by have := mono 0 (by omega); simpa [flatB] using this
    rw [es, List.length_append] at b1
    walk_at "xx"
    refine WE_meth ?_
    walk_at "xx"
    refine WM_extend (get_last rfl) ⟨callable_builtin, ?_⟩
    walk_at "xx"
    refine WC_extend (xs := (low.take i).flatten.map .int) (get_last rfl) rx.rowI_inv.up (by rw [List.length_map, List.length_map]; have : sizeLine = 16777216 := rfl; omega) ?_
    walk_at "xx"
    refine ⟨_, _, _, ?_, rfl⟩
    rw [es, List.set_append_right _ _ (by simp)]
    simp
  rintro ρ' σ' ⟨t1, t2, t3, rfl, rfl⟩
  refine ⟨ox.up, ?_⟩
  rw [lx, List.take_length]
  obtain ⟨ys, oy, ry⟩ := rb.list_inv
  have ly : ys.length = L := by have := ry.len; simpa using this
  walk_at "xx"
  refine WS_for (WItr_rev rm.han (by walk_at "mem") ?_)
  walk_at "xx"
  refine item_dict (v := vb) (gl_up hj) nd (by kernel_rfl) ?_
  walk_at "xx"
  refine ⟨_, _, rfl, oy.up, ?_⟩
  rw [ly]
  refine ⟨fun i ρ' σ' => ∃ t1 t2 t3, σ' = σ ++ [O.list ((flatB low B L (3 * i)).map .int)] ∧ ρ' = ([(Str.ofString "self", some (.ref t)), (Str.ofString "parts", some (.ref j)), (Str.ofString "out", some (.ref (List.length σ))), (Str.ofString "row", t1), (Str.ofString "band", t2), (Str.ofString "rows", t3)] : Loc), ⟨_, _, _, by simp [flatB], rfl⟩, ?_, ?_⟩
  · rintro i ρ' σ' hi ⟨t1, t2, t3, rfl, rfl⟩
    refine ⟨oy.up, ?_⟩
    obtain ⟨b, hb1, rb1⟩ := ry.get (i := L - 1 - i) (d := bandD B (L - 1 - i)) (by rw [List.getElem?_map, List.getElem?_range (by omega)]; rfl)
    have e : ys.getD (L - 1 - i) .none = b := by rw [List.getD, hb1]; rfl
    show WAs _ _ _ _ (ys.getD (L - 1 - i) .none) _ _ _ _
    rw [e]
    obtain ⟨zs, oz, rz⟩ := Rd.tuple_inv (show Rd C σ b (.tuple _) from rb1)
    obtain ⟨z0, z1, z2, rfl, r0, r1, r2⟩ := rz.inv3
    have rz : ∀ k, k < 3 → Rd C σ ([z0, z1, z2].getD k .none) (matD (B (L - 1 - i) k)) := by
      intro k hk
      have k3 : k = 0 ∨ k = 1 ∨ k = 2 := by omega
      rcases k3 with rfl | rfl | rfl
      · exact r0
      · exact r1
      · exact r2
    walk_at "xx"
    refine WS_for (WItr_of ?_)
    walk_at "xx"
    refine ⟨_, _, _, Itb_tuple rm.han oz.up, ?_⟩
    refine ⟨fun k ρ' σ' => ∃ t1 t3, σ' = σ ++ [O.list ((flatB low B L (3 * i + k)).map .int)] ∧ ρ' = ([(Str.ofString "self", some (.ref t)), (Str.ofString "parts", some (.ref j)), (Str.ofString "out", some (.ref (List.length σ))), (Str.ofString "row", t1), (Str.ofString "band", (some b)), (Str.ofString "rows", t3)] : Loc), ⟨_, _, rfl, rfl⟩, ?_, ?_⟩
    · rintro k ρ' σ' hk ⟨t1, t3, rfl, rfl⟩
      refine ⟨oz.up, ?_⟩
      have hk : k < 3 := hk
      obtain ⟨us, ou, lu, hu⟩ := (rz k hk).mat
      generalize [z0, z1, z2].getD k .none = z at *
      have em : (3 * i + k) / 3 = i ∧ (3 * i + k) % 3 = k := by omega
      have sucE : flatB low B L (3 * i + k + 1) = flatB low B L (3 * i + k) ++ (B (L - 1 - i) k).flatten := by rw [flatB_succ, em.1, em.2]
      have bT := mono (3 * i + k + 1) (by omega)
      rw [sucE, List.length_append] at bT
      walk_at "xx"
      refine WS_for (WItr_of ?_)
      walk_at "xx"
      refine ⟨_, _, _, Itb_list rm.han ou.up, ?_⟩
      refine ⟨fun r ρ' σ' => ∃ t1, σ' = σ ++ [O.list ((flatB low B L (3 * i + k) ++ ((B (L - 1 - i) k).take r).flatten).map .int)] ∧ ρ' = ([(Str.ofString "self", some (.ref t)), (Str.ofString "parts", some (.ref j)), (Str.ofString "out", some (.ref (List.length σ))), (Str.ofString "row", t1), (Str.ofString "band", (some b)), (Str.ofString "rows", (some z))] : Loc), ⟨_, by simp, rfl⟩, ?_, ?_⟩
      · rintro r ρ' σ' hr ⟨t1, rfl, rfl⟩
        refine ⟨ou.up, ?_⟩
        rw [lu] at hr
        have hr0 : (B (L - 1 - i) k)[r]? = some (B (L - 1 - i) k)[r] := by simp [hr]
        obtain ⟨x, hx1, rx⟩ := hu r _ hr0
        have e : us.getD r .none = x := by rw [List.getD, hx1]; rfl
        rw [e]
        have es := take_flat_succ hr0
        have b1 := take_flat_len (M := B (L - 1 - i) k) (r + 1)
        rw [es, List.length_append] at b1
        walk_at "xx"
        refine WE_meth ?_
        walk_at "xx"
        refine WM_extend (get_last rfl) ⟨callable_builtin, ?_⟩
        walk_at "xx"
        refine WC_extend (xs := (flatB low B L (3 * i + k) ++ ((B (L - 1 - i) k).take r).flatten).map .int) (get_last rfl) rx.rowI_inv.up (by rw [List.length_map, List.length_map, List.length_append]; have : sizeLine = 16777216 := rfl; omega) ?_
        walk_at "xx"
        refine ⟨_, ?_, rfl⟩
        rw [es, List.set_append_right _ _ (by simp)]
        simp
      · rintro ρ' σ' ⟨t1, rfl, rfl⟩
        refine ⟨ou.up, ?_⟩
        walk_at "xx"
        refine ⟨_, _, ?_, rfl⟩
        rw [lu, List.take_length, ← sucE]; rfl
    · rintro ρ' σ' ⟨t1, t3, rfl, rfl⟩
      refine ⟨oz.up, ?_⟩
      walk_at "xx"
      exact ⟨_, _, _, rfl, rfl⟩
  · rintro ρ' σ' ⟨t1, t2, t3, rfl, rfl⟩
    refine ⟨oy.up, ?_⟩
    walk_at "xx"
    exact hq (.ref σ.length) _ (Rd.lst (.new rfl))
theorem rows_spec {C : Cx} {A : Around} {σ τ : AH} {E : EX} {Q : V → AH → Prop} {vv vs : V} {v : List Int} {a w h : Nat} (c : Law C) (rm : Room A 1) (sh : Sh τ σ) (ov : Rd C τ vv (rowI v)) (os : ObjAt C τ vs (.tuple [.int w, .int h])) (lv : v.length ≤ 10000) (hw : w ≤ 100) (hh : h ≤ 100)
    (hq : ∀ u J, Rd C (τ ++ J) u (.tuple [matD (rowsP v a w h), .int (a + h * w : Nat)]) → Q u (σ ++ J)) : WC C A (.ref 218) [vv, .int a, vs] σ Q E := by
  refine WC_def (pn := [Str.ofString "values", Str.ofString "at", Str.ofString "shape"]) (ln := [Str.ofString "width", Str.ofString "height", Str.ofString "rows", Str.ofString "row"]) (gl := [(Str.ofString "range", Value.type "range")]) (dv := []) (ds := []) (c.K _ _ rfl) rfl (codeRec_of c.K (by kernel_rfl)) (by first | exact Room.dep0 (by assumption) | assumption | omega | exact Nat.le_of_ble_eq_true rfl) .nil rfl (fun x v h => c.glo x v ((show ∀ p ∈ ([(Str.ofString "range", Value.type "range")] : List (Str × Value)), p ∈ lawGlo by decide +kernel) (x, v) h)) ?_ (by decide +kernel) (by decide +kernel) (by decide +kernel) (by decide +kernel) ?_
  · intro s xs hkp hl
    obtain ⟨x0, x1, x2, rfl⟩ := len3 hl
    first | exact BindsTo.of_eq rfl | exact BindsTo.of_defaults rfl (hkp _ _ (c.K _ _ rfl)) rfl rfl rfl
  intro env henv
  replace c := c.wg [(Str.ofString "range", Value.type "range")]
  show WSs (C.wg [(Str.ofString "range", Value.type "range")]) _ _ _ [(Str.ofString "values", some (vv)), (Str.ofString "at", some (.int a)), (Str.ofString "shape", some (vs)), (Str.ofString "width", none), (Str.ofString "height", none), (Str.ofString "rows", none), (Str.ofString "row", none)] _ _ _
  have rm := rm.deep (env := env)
  have ov' := ov.rowI_inv.shl sh
  walk_at "xx"
  refine WAs_tuple rm.han (os.sht sh) ?_
  walk_at "xx"
  refine WS_for (WItr_rng rm.han (by walk_at "mem") ?_)
  walk_at "xx"
  refine exRng (Nat.le_trans hh (Nat.le_of_ble_eq_true rfl)) ?_
  refine ⟨fun i ρ' σ' => ∃ J acc t1, σ' = σ ++ [O.list acc] ++ J ∧ ρ' = ([(Str.ofString "values", some vv), (Str.ofString "at", some (.int (a + i * w : Nat))), (Str.ofString "shape", some vs), (Str.ofString "width", some (.int w)), (Str.ofString "height", some (.int h)), (Str.ofString "rows", some (.ref (List.length σ))), (Str.ofString "row", t1)] : Loc) ∧ acc.length = i ∧ RdAll C (τ ++ [O.ns []] ++ J) acc ((List.range i).map fun r => rowI ((v.drop (a + r * w)).take w)), ⟨[], [], none, by simp, by simp, rfl, .nil⟩, ?_, ?_⟩
  · rintro i ρ' σ' hi ⟨J, acc, t1, rfl, rfl, la, ra⟩
    refine ⟨trivial, ?_⟩
    walk_at "xx"
    refine WE_meth ?_
    walk_at "xx"
    refine WM_append (get_mid rfl) ⟨callable_builtin, ?_⟩
    refine WL_cons ?_
    refine WE_slice ?_
    walk_at "xx"
    refine ⟨_, ov'.up.up, by decide, by rw [List.length_map]; exact sz_le lv (Nat.le_of_ble_eq_true rfl), ?_⟩
    rw [pick_map, ← Int.natCast_add, pickV_mid2 _ (Nat.le_add_right _ _), Nat.add_sub_cancel_left]
    walk_at "xx"
    refine WC_appE (gl_up (get_mid rfl)) (Nat.le_of_eq la) (Nat.le_trans (Nat.le_of_lt hi) (Nat.le_trans hh (Nat.le_of_ble_eq_true rfl))) ?_
    walk_at "xx"
    have s1 := (sh.hide (.list acc)).app J
    refine ⟨J ++ [O.list (((v.drop (a + i * w)).take w).map .int)], acc ++ [.ref (σ ++ [O.list acc] ++ J).length], some (.int i), set_midE (o := .list acc) rfl (by simp), ?_, by simp [la], ?_⟩
    · rw [show ((a + i * w : Nat) : Int) + (w : Int) = ((a + (i + 1) * w : Nat) : Int) by rw [Nat.add_mul]; omega]
    · rw [← List.append_assoc, List.range_succ, List.map_append]
      exact ra.up.snoc (Rd.lst (.new s1.len.symm))
  · rintro ρ' σ' ⟨J, acc, t1, rfl, rfl, la, ra⟩
    refine ⟨trivial, ?_⟩
    walk_at "xx"
    have s1 := (sh.app [O.list acc]).app J
    have sh0 : Sh (τ ++ [O.ns []] ++ J) (τ ++ [O.list acc] ++ J) := (Sh.refl.hide (.list acc)).app J
    have := hq (.ref (σ ++ [O.list acc] ++ J).length) ([O.list acc] ++ J ++ [O.tuple [.ref σ.length, .int (a + h * w : Nat)]])
    simp only [← List.append_assoc] at this
    have em : matD (rowsP v a w h) = .list ((List.range h).map fun r => rowI ((v.drop (a + r * w)).take w)) := by unfold matD rowsP; rw [List.map_map]; rfl
    refine this (.tuple (.new s1.len.symm) (.cons ?_ (.cons .int .nil)))
    rw [em]
    exact .list (.up (.up (.new sh.len.symm))) (ra.sh sh0).up
theorem RdAll.app {C : Cx} {σ : AH} {vs ws : List V} {ds es : List PyData} (h : RdAll C σ vs ds) (h2 : RdAll C σ ws es) : RdAll C σ (vs ++ ws) (ds ++ es) := by
  induction vs generalizing ds with
  | nil => cases h; exact h2
  | cons a r ih => cases h with | cons x y => exact .cons x (ih y)
theorem RdAll.rev {C : Cx} {σ : AH} {vs : List V} {ds : List PyData} (h : RdAll C σ vs ds) : RdAll C σ vs.reverse ds.reverse := by
  induction vs generalizing ds with
  | nil => cases h; exact .nil
  | cons a r ih => cases h with | cons x y => rw [List.reverse_cons, List.reverse_cons]; exact (ih y).app (.cons x .nil)
theorem rev_range {α : Type} (f : Nat → α) (n : Nat) : ((List.range n).map fun i => f (n - 1 - i)).reverse = (List.range n).map f := by
  apply List.ext_getElem
  · simp
  · intro i h1 h2
    simp at h1
    simp [show n - 1 - (n - 1 - i) = i by omega]
theorem parts_spec {C : Cx} {A : Around} {σ : AH} {E : EX} {Q : V → AH → Prop} {t W H L : Nat} {vv : V} {v : List Int} (c : Law C) (rm : Room A 2) (T : TreeAt C σ t W H L) (hL : L ≤ 10) (hW : W ≤ 100) (hH : H ≤ 100) (ov : Rd C σ vv (rowI v)) (lv : v.length ≤ 10000)
    (hq : ∀ j J vl vb, (σ ++ J)[j]? = some (.ns [(Str.ofString "low", vl), (Str.ofString "bands", vb)]) → Rd C (σ ++ J) vl (matD (rowsP v 0 (half W L) (half H L))) → Rd C (σ ++ J) vb (.list ((List.range L).map (bandD (backB W H L v)))) → Q (.ref j) (σ ++ J)) : WC C A (.ref 197) [.ref t, vv] σ Q E := by
  refine WC_def (pn := [Str.ofString "self", Str.ofString "values"]) (ln := [Str.ofString "low", Str.ofString "bands", Str.ofString "rows", Str.ofString "at", Str.ofString "out", Str.ofString "level", Str.ofString "band", Str.ofString "kind", Str.ofString "some"]) (gl := [(Str.ofString "_rows", Value.ref 218), (Str.ofString "range", Value.type "range"), (Str.ofString "len", Value.builtin "len"), (Str.ofString "tuple", Value.type "tuple")]) (dv := []) (ds := []) (c.K _ _ rfl) rfl (codeRec_of c.K (by kernel_rfl)) (by first | exact Room.dep0 (by assumption) | assumption | omega | exact Nat.le_of_ble_eq_true rfl) .nil rfl (fun x v h => c.glo x v ((show ∀ p ∈ ([(Str.ofString "_rows", Value.ref 218), (Str.ofString "range", Value.type "range"), (Str.ofString "len", Value.builtin "len"), (Str.ofString "tuple", Value.type "tuple")] : List (Str × Value)), p ∈ lawGlo by decide +kernel) (x, v) h)) ?_ (by decide +kernel) (by decide +kernel) (by decide +kernel) (by decide +kernel) ?_
  · intro s xs hkp hl
    obtain ⟨x0, x1, rfl⟩ := len2 hl
    first | exact BindsTo.of_eq rfl | exact BindsTo.of_defaults rfl (hkp _ _ (c.K _ _ rfl)) rfl rfl rfl
  intro env henv
  replace c := c.wg [(Str.ofString "_rows", Value.ref 218), (Str.ofString "range", Value.type "range"), (Str.ofString "len", Value.builtin "len"), (Str.ofString "tuple", Value.type "tuple")]
  show WSs (C.wg [(Str.ofString "_rows", Value.ref 218), (Str.ofString "range", Value.type "range"), (Str.ofString "len", Value.builtin "len"), (Str.ofString "tuple", Value.type "tuple")]) _ _ _ [(Str.ofString "self", some (.ref t)), (Str.ofString "values", some (vv)), (Str.ofString "low", none), (Str.ofString "bands", none), (Str.ofString "rows", none), (Str.ofString "at", none), (Str.ofString "out", none), (Str.ofString "level", none), (Str.ofString "band", none), (Str.ofString "kind", none), (Str.ofString "some", none)] _ _ _
  have rm := rm.deep (env := env)
  obtain ⟨d, js, jp, jd, jc, h1, h2, h3, h4, h5, h6⟩ := T.ex
  obtain ⟨zs, oz, rz⟩ := h3.tuple_inv
  obtain ⟨vlo, vba, rfl, rlo, rba⟩ := rz.inv2
  have plo := rlo.pair
  obtain ⟨bs, ob, lb, hb⟩ := band_at rba
  have zL : L ≤ 100000 := Nat.le_trans hL (Nat.le_of_ble_eq_true rfl)
  walk_at "xx"
  refine at_shape c h1 h2 ?_
  refine WAs_tuple rm.han oz ?_
  walk_at "xx"
  refine WE_call (C := C) (by walk_at "mem") c.c218 ?_
  walk_at "xx"
  refine rows_spec (a := 0) c rm.le Sh.refl ov.wg plo lv (half_le W hW L) (half_le H hH L) fun u J0 ru => ?_
  obtain ⟨us, ou, rus⟩ := ru.tuple_inv
  obtain ⟨vr, va, rfl, rr, ra⟩ := rus.inv2
  rw [ra.int_inv] at ou
  refine WAs_tuple rm.han ou ?_
  have eo : 0 + half H L * half W L = offM W H L 0 := by rw [offM, Nat.mul_comm]; omega
  rw [eo]
  walk_at "xx"
  refine WS_for (WItr_down rm.han (by walk_at "mem") ?_)
  walk_at "xx"
  refine WE_call (C := C) (by walk_at "mem") callable_builtin ?_
  walk_at "xx"
  refine WC_lenE ob.up.up lb zL ?_
  walk_at "xx"
  refine exDown ⟨by omega, by decide, ?_⟩
  rw [show ((L : Int) - 1 - -1).toNat = L by omega]
  refine ⟨fun i ρ' σ' => ∃ J acc t2 t3 t4 t5, σ' = σ ++ J0 ++ [O.list acc] ++ J ∧ ρ' = ([(Str.ofString "self", some (.ref t)), (Str.ofString "values", some vv), (Str.ofString "low", some vlo), (Str.ofString "bands", some vba), (Str.ofString "rows", some vr), (Str.ofString "at", some (.int (offM W H L (3*i)))), (Str.ofString "out", some (.ref (List.length (σ ++ J0)))), (Str.ofString "level", t2), (Str.ofString "band", t3), (Str.ofString "kind", t4), (Str.ofString "some", t5)] : Loc) ∧ acc.length = i ∧ RdAll C (σ ++ J0 ++ [O.ns []] ++ J) acc ((List.range i).map fun i' => bandD (backB W H L v) (L - 1 - i')), ⟨[], [], _, _, _, _, by simp, rfl, rfl, .nil⟩, ?_, ?_⟩
  · rintro i ρ' σ' hi ⟨J, acc, t2, t3, t4, t5, rfl, rfl, la, racc⟩
    refine ⟨trivial, ?_⟩
    show WAs _ _ _ _ (V.int ((L : Int) - 1 - (i : Nat))) _ _ _ _
    rw [show ((L : Int) - 1 - (i : Nat)) = ((L - 1 - i : Nat) : Int) by omega]
    obtain ⟨bl, ys, hbl, obl, zy, hys⟩ := hb (L - 1 - i) (by omega)
    have s0 : Sh (σ ++ J0 ++ [O.ns []] ++ J) (σ ++ J0 ++ [O.list acc] ++ J) := (Sh.refl.hide (.list acc)).app J
    walk_at "xx"
    refine WS_for (WItr_rng rm.han (by walk_at "mem") ?_)
    walk_at "xx"
    refine ⟨3, rfl, by decide, ?_⟩
    generalize hX : σ ++ J0 ++ [O.list acc] ++ J = X at *
    generalize hT : σ ++ J0 ++ [O.ns []] ++ J = Tt at *
    have upX : ∀ {x : V} {o : O}, ObjAt C σ x o → ObjAt C X x o := fun h => by rw [← hX]; exact h.up.up.up
    have upT : ∀ {x : V} {dd : PyData}, Rd C σ x dd → Rd C Tt x dd := fun h => by rw [← hT]; exact h.up.up.up
    have upTo : ∀ {x : V} {o : O}, ObjAt C σ x o → ObjAt C Tt x o := fun h => by rw [← hT]; exact h.up.up.up
    refine ⟨fun k ρ' σ' => ∃ J' ba t4 t5, σ' = X ++ [O.list ba] ++ J' ∧ ρ' = ([(Str.ofString "self", some (.ref t)), (Str.ofString "values", some vv), (Str.ofString "low", some vlo), (Str.ofString "bands", some vba), (Str.ofString "rows", some vr), (Str.ofString "at", some (.int (offM W H L (3*i+k)))), (Str.ofString "out", some (.ref (List.length (σ ++ J0)))), (Str.ofString "level", (some (.int (L - 1 - i : Nat)))), (Str.ofString "band", (some (.ref (List.length X)))), (Str.ofString "kind", t4), (Str.ofString "some", t5)] : Loc) ∧ ba.length = k ∧ RdAll C (Tt ++ [O.ns []] ++ J') ba ((List.range k).map fun k' => matD (backB W H L v (L - 1 - i) k')), ⟨[], [], _, _, by simp, rfl, rfl, .nil⟩, ?_, ?_⟩
    · rintro k ρ' σ' hk ⟨J', ba, t4, t5, rfl, rfl, lba, rba⟩
      refine ⟨trivial, ?_⟩
      obtain ⟨x, hx1, ox⟩ := hys k hk
      have sl := bsh_le (l := L - 1 - i) (k := k) hW hH
      walk_at "xx"
      refine WE_call (C := C) (by walk_at "mem") c.c218 ?_
      walk_at "xx"
      refine item_listN (upX ob).up.up (by rw [lb]; exact zL) hbl ?_
      walk_at "xx"
      refine item_tupN (upX obl).up.up zy hx1 ?_
      walk_at "xx"
      refine rows_spec c rm.le ((s0.hide (.list ba)).app J') (upT ov).up.up.wg (upTo ox).up.up lv sl.1 sl.2 fun u J2 ru => ?_
      obtain ⟨us, ou, rus⟩ := ru.tuple_inv
      obtain ⟨vsm, va, rfl, rsm, ra⟩ := rus.inv2
      rw [ra.int_inv] at ou
      refine WAs_tuple rm.han (ou.sht (((s0.hide (.list ba)).app J').app J2)) ?_
      walk_at "xx"
      refine WE_meth ?_
      walk_at "xx"
      refine WM_append (gl_up (get_mid rfl)) ⟨callable_builtin, ?_⟩
      walk_at "xx"
      refine WC_appE (gl_up (get_mid rfl)) (Nat.le_of_eq lba) (Nat.le_trans (Nat.le_of_lt hk) (Nat.le_of_ble_eq_true rfl)) ?_
      walk_at "xx"
      have em : (3 * i + k) / 3 = i ∧ (3 * i + k) % 3 = k := by omega
      refine ⟨J' ++ J2, ba ++ [vsm], some (.int k), some vsm, set_midE (o := .list ba) rfl (by simp), ?_, by simp [lba], ?_⟩
      · have eoff : offM W H L (3 * i + k) + (bsh W H (L - 1 - i) k).2 * (bsh W H (L - 1 - i) k).1 = offM W H L (3 * i + (k + 1)) := by
          rw [show 3 * i + (k + 1) = (3 * i + k) + 1 from rfl, offM, szM, em.1, em.2, Nat.mul_comm (bsh W H (L - 1 - i) k).2]
        rw [eoff]
      · rw [← List.append_assoc, List.range_succ, List.map_append]
        refine rba.up.snoc ?_
        have : backB W H L v (L - 1 - i) k = rowsP v (offM W H L (3 * i + k)) (bsh W H (L - 1 - i) k).1 (bsh W H (L - 1 - i) k).2 := by
          unfold backB; rw [show 3 * (L - 1 - (L - 1 - i)) + k = 3 * i + k by omega]
        show Rd C _ vsm (matD (backB W H L v (L - 1 - i) k))
        rw [this]; exact rsm.gw
    · rintro ρ' σ' ⟨J', ba, t4, t5, rfl, rfl, lba, rba⟩
      refine ⟨trivial, ?_⟩
      walk_at "xx"
      refine WE_meth ?_
      walk_at "xx"
      refine WM_append (j := (σ ++ J0).length) (xs := acc) (by rw [← hX]; exact gl_up (gl_up (get_mid rfl))) ⟨callable_builtin, ?_⟩
      walk_at "xx"
      refine WE_call (C := C) (by walk_at "mem") callable_type ?_
      walk_at "xx"
      refine WC_tuple (xs := ba) (show ObjAt _ _ (.ref X.length) _ from get_mid rfl) (by rw [lba]; exact Nat.le_of_ble_eq_true rfl) ?_
      walk_at "xx"
      refine WC_appE (xs := acc) (by rw [← hX]; exact gl_up (gl_up (gl_up (get_mid rfl)))) (Nat.le_of_eq la) (Nat.le_trans (Nat.le_of_lt hi) zL) ?_
      walk_at "xx"
      have s2 : Sh (Tt ++ [O.ns []] ++ J') (Tt ++ [O.list ba] ++ J') := (Sh.refl.hide (.list ba)).app J'
      have s3 := (s0.app [O.list ba]).app J'
      refine ⟨J ++ [O.list ba] ++ J' ++ [O.tuple ba], acc ++ [.ref (X ++ [O.list ba] ++ J').length], some (.int (L - 1 - i : Nat)), some (.ref X.length), t4, t5, set_midE (o := .list acc) rfl (by rw [← hX]; simp), ?_, by simp [la], ?_⟩
      · rw [show 3 * (i + 1) = 3 * i + 3 by omega]
      · simp only [← List.append_assoc, hT]
        rw [List.range_succ, List.map_append]
        exact racc.up.up.up.snoc (.tuple (.new s3.len.symm) (rba.sh s2).up)
  · rintro ρ' σ' ⟨J, acc, t2, t3, t4, t5, rfl, rfl, la, racc⟩
    refine ⟨trivial, ?_⟩
    have s0 : Sh (σ ++ J0 ++ [O.ns []] ++ J) (σ ++ J0 ++ [O.list acc.reverse] ++ J) := (Sh.refl.hide (.list acc.reverse)).app J
    walk_at "xx"
    refine WE_meth ?_
    walk_at "xx"
    refine WM_reverse (get_mid rfl) ⟨callable_builtin, ?_⟩
    walk_at "xx"
    refine WC_reverse (get_mid rfl) (by rw [la]; exact sz_le (Nat.le_refl _) zL) ?_
    rw [set_mid rfl]
    walk_at "xx"
    refine WE_dict2 (by decide +kernel) ?_
    walk_at "xx"
    have := hq (σ ++ J0 ++ [O.list acc.reverse] ++ J).length (J0 ++ [O.list acc.reverse] ++ J ++ [O.ns [(Str.ofString "low", vr), (Str.ofString "bands", .ref (σ ++ J0).length)]]) vr (.ref (σ ++ J0).length)
    simp only [← List.append_assoc] at this
    refine this (by simp) rr.gw.up.up.up (.list (.up (.up (.new rfl))) ?_)
    have := (racc.sh s0).rev
    rw [rev_range] at this
    exact this.up
noncomputable def pix (kind a b row k c : Int) : Int := [a, (a + b * (row + c) + 31 * k).fmod 256, (a * (row + 1) + b * c * c + 77 * k).fmod 256, if (row * b + c).fmod 5 == 0 then 255 - a else a].getD kind.toNat 0
theorem mul_sm {a b : Int} (h0 : 0 ≤ a) {n : Int} (h1 : a < n) (hn : n ≤ 100000 := by decide) : IntMulOk a b := mul_small (by omega) (by omega)
theorem mul_sm_r {a b : Int} (h0 : 0 ≤ b) {n : Int} (h1 : b < n) (hn : n ≤ 100000 := by decide) : IntMulOk a b := mul_small_r (by omega) (by omega)
theorem four_of {k : Int} (h0 : 0 ≤ k) (h1 : k < 4) : k = 0 ∨ k = 1 ∨ k = 2 ∨ k = 3 := by omega
theorem inv_one {P : PyData → Prop} {ds : List PyData} (h : ds.length = 1) (hp : ∀ d ∈ ds, P d) : ∃ d, ds = [d] ∧ P d := by
  match ds, h with
  | [d], _ => exact ⟨d, rfl, hp d (.head _)⟩
theorem law_image_spec {C : Cx} {A : Around} {σ : AH} {E : EX} {Q : V → AH → Prop} {a0 : Addr} {ns : List Int} (c : Law C) (rm : Room A 2) (hg : (a0, O.list (ns.map .int)) ∈ C.gob) (hl : ns.length ≤ 63)
    (hq : ∀ v J M (H W : Nat), 1 ≤ H → H ≤ 7 → 1 ≤ W → W ≤ 7 → M.length = H → (∀ r ∈ M, r.length = W) → Rd C (σ ++ J) v (.list [matD M]) → Q v (σ ++ J)) :
    WC C A (.ref 237) [.k (.ref a0), .int 0, .int 1, .int 7] σ Q E := by
  refine WC_def (pn := [Str.ofString "script", Str.ofString "at", Str.ofString "planes", Str.ofString "most"]) (ln := [Str.ofString "width", Str.ofString "height", Str.ofString "kind", Str.ofString "a", Str.ofString "b", Str.ofString "out", Str.ofString "k", Str.ofString "plane", Str.ofString "row"]) (gl := [(Str.ofString "range", Value.type "range"), (Str.ofString "_law_cell", Value.ref 232)]) (dv := []) (ds := []) (c.K _ _ rfl) rfl (codeRec_of c.K (by kernel_rfl)) (by first | exact Room.dep0 (by assumption) | assumption | omega | exact Nat.le_of_ble_eq_true rfl) .nil rfl (fun x v h => c.glo x v ((show ∀ p ∈ ([(Str.ofString "range", Value.type "range"), (Str.ofString "_law_cell", Value.ref 232)] : List (Str × Value)), p ∈ lawGlo by decide +kernel) (x, v) h)) ?_ (by decide +kernel) (by decide +kernel) (by decide +kernel) (by decide +kernel) ?_
  · intro s xs hkp hl
    obtain ⟨x0, x1, x2, x3, rfl⟩ := len4 hl
    first | exact BindsTo.of_eq rfl | exact BindsTo.of_defaults rfl (hkp _ _ (c.K _ _ rfl)) rfl rfl rfl
  intro env henv
  replace c := c.wg [(Str.ofString "range", Value.type "range"), (Str.ofString "_law_cell", Value.ref 232)]
  show WSs (C.wg [(Str.ofString "range", Value.type "range"), (Str.ofString "_law_cell", Value.ref 232)]) _ _ _ [(Str.ofString "script", some (.k (.ref a0))), (Str.ofString "at", some (.int 0)), (Str.ofString "planes", some (.int 1)), (Str.ofString "most", some (.int 7)), (Str.ofString "width", none), (Str.ofString "height", none), (Str.ofString "kind", none), (Str.ofString "a", none), (Str.ofString "b", none), (Str.ofString "out", none), (Str.ofString "k", none), (Str.ofString "plane", none), (Str.ofString "row", none)] _ _ _
  have rm := rm.deep (env := env)
  have fm : ∀ (n m : Int), 0 < m → 0 ≤ n.fmod m ∧ n.fmod m < m := fun n m h => ⟨Int.fmod_nonneg_of_pos _ h, Int.fmod_lt_of_pos _ h⟩
  walk_at "xx"
  refine WE_call (C := C) (by walk_at "mem") c.c232 ?_
  walk_at "xx"
  refine cell_spec c rm.dep0 hg hl (by decide) ?_
  walk_at "xx"
  obtain ⟨w0, w1⟩ := fm (ns.getD (0 : Int).toNat 0) 7 (by decide)
  generalize (ns.getD (0 : Int).toNat 0).fmod 7 = wi at *
  refine WE_call (C := C) (by walk_at "mem") c.c232 ?_
  walk_at "xx"
  refine cell_spec c rm.dep0 hg hl (by decide) ?_
  walk_at "xx"
  obtain ⟨h0', h1'⟩ := fm (ns.getD ((0 : Int) + 1).toNat 0) 7 (by decide)
  generalize (ns.getD ((0 : Int) + 1).toNat 0).fmod 7 = hi at *
  refine WE_call (C := C) (by walk_at "mem") c.c232 ?_
  walk_at "xx"
  refine cell_spec c rm.dep0 hg hl (by decide) ?_
  walk_at "xx"
  obtain ⟨k0, k1⟩ := fm (ns.getD ((0 : Int) + 2).toNat 0) 4 (by decide)
  generalize (ns.getD ((0 : Int) + 2).toNat 0).fmod 4 = kind at *
  refine WE_call (C := C) (by walk_at "mem") c.c232 ?_
  walk_at "xx"
  refine cell_spec c rm.dep0 hg hl (by decide) ?_
  walk_at "xx"
  obtain ⟨a1, a2⟩ := fm (ns.getD ((0 : Int) + 3).toNat 0) 256 (by decide)
  generalize (ns.getD ((0 : Int) + 3).toNat 0).fmod 256 = a at *
  refine WE_call (C := C) (by walk_at "mem") c.c232 ?_
  walk_at "xx"
  refine cell_spec c rm.dep0 hg hl (by decide) ?_
  walk_at "xx"
  obtain ⟨b1, b2⟩ := fm (ns.getD ((0 : Int) + 4).toNat 0) 97 (by decide)
  generalize (ns.getD ((0 : Int) + 4).toNat 0).fmod 97 = b at *
  obtain ⟨W, hW⟩ : ∃ W : Nat, 1 + wi = (W : Int) := ⟨(1 + wi).toNat, by omega⟩
  obtain ⟨H, hH⟩ : ∃ H : Nat, 1 + hi = (H : Int) := ⟨(1 + hi).toNat, by omega⟩
  rw [hW, hH]
  have bH : 1 ≤ H ∧ H ≤ 7 := by clear hW; omega
  have bW : 1 ≤ W ∧ W ≤ 7 := by clear hH; omega
  have hq := fun v J M => hq v J M H W bH.1 bH.2 bW.1 bW.2
  have zW : W ≤ 100000 := Nat.le_trans bW.2 (Nat.le_of_ble_eq_true rfl)
  have zH : H ≤ 100000 := Nat.le_trans bH.2 (Nat.le_of_ble_eq_true rfl)
  have mb : ∀ y, IntMulOk b y := fun y => mul_sm b1 b2
  have ma : ∀ y, IntMulOk a y := fun y => mul_sm a1 a2
  have mb' : ∀ y, IntMulOk y b := fun y => mul_sm_r b1 b2
  refine WS_for (WItr_rng rm.han (by walk_at "mem") ?_)
  walk_at "xx"
  refine ⟨1, rfl, by decide, ?_⟩
  refine ⟨fun i ρ' σ' => ∃ J acc ds t1 t2 t3, σ' = σ ++ [O.list acc] ++ J ∧ ρ' = ([(Str.ofString "script", some (.k (.ref a0))), (Str.ofString "at", some (.int 0)), (Str.ofString "planes", some (.int 1)), (Str.ofString "most", some (.int 7)), (Str.ofString "width", some (.int W)), (Str.ofString "height", some (.int H)), (Str.ofString "kind", some (.int kind)), (Str.ofString "a", some (.int a)), (Str.ofString "b", some (.int b)), (Str.ofString "out", some (.ref (List.length σ))), (Str.ofString "k", t1), (Str.ofString "plane", t2), (Str.ofString "row", t3)] : Loc) ∧ RdAll C (σ ++ [O.ns []] ++ J) acc ds ∧ ds.length = i ∧ ∀ d ∈ ds, IsMat H W d, ⟨[], [], [], _, _, _, by simp, rfl, .nil, rfl, fun _ h => by cases h⟩, ?_, ?_⟩
  · rintro i ρ' σ' hi' ⟨J, acc, ds, t1, t2, t3, rfl, rfl, racc, lds, hds⟩
    refine ⟨trivial, ?_⟩
    have la := racc.len
    have s0 : Sh (σ ++ [O.ns []] ++ J) (σ ++ [O.list acc] ++ J) := (Sh.refl.hide (.list acc)).app J
    walk_at "xx"
    refine WS_for (WItr_rng rm.han (by walk_at "mem") ?_)
    walk_at "xx"
    refine exRng zH ?_
    generalize hX : σ ++ [O.list acc] ++ J = X at *
    generalize hT : σ ++ [O.ns []] ++ J = Tt at *
    refine ⟨fun j ρ' σ' => ∃ J' pa es t3, σ' = X ++ [O.list pa] ++ J' ∧ ρ' = ([(Str.ofString "script", some (.k (.ref a0))), (Str.ofString "at", some (.int 0)), (Str.ofString "planes", some (.int 1)), (Str.ofString "most", some (.int 7)), (Str.ofString "width", some (.int W)), (Str.ofString "height", some (.int H)), (Str.ofString "kind", some (.int kind)), (Str.ofString "a", some (.int a)), (Str.ofString "b", some (.int b)), (Str.ofString "out", some (.ref (List.length σ))), (Str.ofString "k", (some (.int i))), (Str.ofString "plane", (some (.ref (List.length X)))), (Str.ofString "row", t3)] : Loc) ∧ RdAll C (Tt ++ [O.ns []] ++ J') pa es ∧ es.length = j ∧ ∀ (i : Nat) d, es[i]? = some d → ∃ r : List Int, d = rowI r ∧ r.length = W, ⟨[], [], [], _, by simp, rfl, .nil, rfl, fun i d e => by simp at e⟩, ?_, ?_⟩
    · rintro j ρ' σ' hj ⟨J', pa, es, t3, rfl, rfl, rpa, les, hes⟩
      refine ⟨trivial, ?_⟩
      have lp := rpa.len
      have s1 := (s0.hide (.list pa)).app J'
      walk_at "xx"
      refine WE_meth ?_
      walk_at "xx"
      refine WM_append (get_mid rfl) ⟨callable_builtin, ?_⟩
      walk_at "xx"
      refine WE_ListComp2 (C := C) (l2 := []) (capt := [(Str.ofString "kind", some (.int kind)), (Str.ofString "a", some (.int a)), (Str.ofString "b", some (.int b)), (Str.ofString "k", some (.int i)), (Str.ofString "row", some (.int j))]) henv (by show compOk _ _ _ [Str.ofString "kind", Str.ofString "a", Str.ofString "b", Str.ofString "k", Str.ofString "row"] [] = true; decide +kernel) (by show [Str.ofString "kind", Str.ofString "a", Str.ofString "b", Str.ofString "k", Str.ofString "row"].Nodup; decide +kernel) (by
        intro p hp
        simp only [List.mem_cons, List.not_mem_nil, or_false] at hp
        rcases hp with rfl | rfl | rfl | rfl | rfl <;> walk_at "mem") (by simp) ?_
      refine WItr_rng rm.han (by walk_at "mem") ?_
      walk_at "xx"
      refine exRng zW ?_
      refine CompGo_ints (f := fun x => pix kind a b j i x) (sz_le (Nat.le_refl _) zW) trivial ?_ ?_
      · rintro x pv hx rfl cenv _
        walk_at "xx"
        refine mul_ii (mb _) ?_
        walk_at "xx"
        refine mul_ii (mul_small (by decide) (by decide)) ?_
        walk_at "xx"
        refine mul_ii (ma _) ?_
        walk_at "xx"
        refine mul_ii (mb _) ?_
        walk_at "xx"
        refine mul_ii (mul_sm_r (Int.natCast_nonneg x) (n := ((7 : Nat) : Int)) (Int.ofNat_lt.mpr (Nat.lt_of_lt_of_le hx bW.2))) ?_
        walk_at "xx"
        refine mul_ii (mul_small (by decide) (by decide)) ?_
        walk_at "xx"
        refine mul_ii (mb' _) ?_
        walk_at "xx"
        refine ixB (x := .int (if ((j : Int) * b + x).fmod 5 == 0 then 255 - a else a)) (by split <;> simp [*]) ?_
        walk_at "xx"
        refine ixI (x := .int (pix kind a b j i x)) k0 (Int.lt_trans k1 (by decide)) ?_ ⟨rfl, rfl⟩
        have four := four_of k0 k1
        rcases four with rfl | rfl | rfl | rfl <;> rfl
      walk_at "xx"
      refine WC_appE (gl_up (get_mid rfl)) (Nat.le_of_eq (lp.trans les)) (Nat.le_trans (Nat.le_of_lt hj) zH) ?_
      walk_at "xx"
      refine ⟨J' ++ [O.list (((List.range W).map fun x : Nat => pix kind a b j i x).map .int)], pa ++ [.ref (X ++ [O.list pa] ++ J').length], es ++ [rowI ((List.range W).map fun x : Nat => pix kind a b j i x)], _, set_midE (o := .list pa) rfl (by simp), rfl, ?_, by simp [les], ?_⟩
      · rw [← List.append_assoc]; exact rpa.up.snoc (Rd.lst (.new s1.len.symm))
      · intro m d e
        by_cases hm : m < es.length
        · rw [List.getElem?_append_left hm] at e; exact hes m d e
        · rw [List.getElem?_append_right (by omega)] at e
          have hk0 : m - es.length = 0 := by
            have := (List.getElem?_eq_some_iff.mp e).1
            simp at this; omega
          rw [hk0] at e
          cases e
          exact ⟨_, rfl, by simp⟩
    · rintro ρ' σ' ⟨J', pa, es, t3, rfl, rfl, rpa, les, hes⟩
      refine ⟨trivial, ?_⟩
      obtain ⟨M, eM, lM, hM⟩ := ex_rows hes
      walk_at "xx"
      refine WE_meth ?_
      walk_at "xx"
      refine WM_append (j := σ.length) (xs := acc) (by rw [← hX]; exact gl_up (gl_up (get_mid rfl))) ⟨callable_builtin, ?_⟩
      walk_at "xx"
      refine WC_append (xs := acc) (by rw [← hX]; exact gl_up (gl_up (get_mid rfl))) (by rw [la, lds]; exact Nat.le_trans (Nat.le_of_lt hi') (Nat.le_of_ble_eq_true rfl)) ?_
      walk_at "xx"
      have s2 : Sh (Tt ++ [O.ns []] ++ J') (Tt ++ [O.list pa] ++ J') := (Sh.refl.hide (.list pa)).app J'
      refine ⟨J ++ [O.list pa] ++ J', acc ++ [.ref X.length], ds ++ [matD M], _, _, _, set_midE (o := .list acc) rfl (by rw [← hX]; simp), rfl, ?_, by simp [lds], ?_⟩
      · simp only [← List.append_assoc, hT]
        refine racc.up.up.snoc ?_
        rw [← eM]
        exact .list (.up (.new s0.len.symm)) (rpa.sh s2)
      · intro d hd
        rcases List.mem_append.mp hd with hd | hd
        · exact hds d hd
        · rw [List.mem_singleton.mp hd]; exact ⟨M, rfl, lM.trans les, hM⟩
  · rintro ρ' σ' ⟨J, acc, ds, t1, t2, t3, rfl, rfl, racc, lds, hds⟩
    refine ⟨trivial, ?_⟩
    have s0 : Sh (σ ++ [O.ns []] ++ J) (σ ++ [O.list acc] ++ J) := (Sh.refl.hide (.list acc)).app J
    obtain ⟨d, rfl, M, rfl, lM, hM⟩ := inv_one lds hds
    walk_at "xx"
    have := hq (.ref σ.length) ([O.list acc] ++ J) M lM hM
    simp only [← List.append_assoc] at this
    exact this (.list (.up (.new rfl)) (racc.sh s0))
theorem eqv_all {ds : List PyData} (h : ∀ d ∈ ds, PyData.eqv d d = true) : PyData.eqvAll ds ds = true := by
  induction ds with
  | nil => rfl
  | cons d r ih =>
    have h1 := h d (.head _)
    have h2 := ih fun d hd => h d (.tail _ hd)
    simp [PyData.eqvAll, h1, h2]
theorem canLay_all {ds : List PyData} (h : ∀ d ∈ ds, PyData.canLay0 d = true) : PyData.canLayAll0 ds = true := by
  induction ds with
  | nil => rfl
  | cons d r ih =>
    have h1 := h d (.head _)
    have h2 := ih fun d hd => h d (.tail _ hd)
    simp [PyData.canLayAll0, h1, h2]
theorem depth_all {ds : List PyData} {n : Nat} (h : ∀ d ∈ ds, PyData.depth d ≤ n) : PyData.depthAll ds ≤ n := by
  induction ds with
  | nil => simp [PyData.depthAll]
  | cons d r ih =>
    have h1 := h d (.head _)
    have h2 := ih fun d hd => h d (.tail _ hd)
    simp [PyData.depthAll]; omega
theorem rowI_eqv {r : List Int} : PyData.eqv (rowI r) (rowI r) = true := eqv_ints r
theorem rowI_shaped {r : List Int} : SeqAt.shaped (rowI r) = true := shaped_ints r
theorem matD_eqv {M : List (List Int)} : PyData.eqv (matD M) (matD M) = true := by
  show PyData.eqvAll _ _ = true
  refine eqv_all fun d hd => ?_
  obtain ⟨r, _, rfl⟩ := List.mem_map.mp hd
  exact rowI_eqv
theorem matD_shaped {M : List (List Int)} : SeqAt.shaped (matD M) = true := by
  have l1 : PyData.canLayAll0 (M.map rowI) = true := canLay_all fun d hd => by obtain ⟨r, _, rfl⟩ := List.mem_map.mp hd; simp [rowI, PyData.canLay0, canLay_ints]
  have d1 : PyData.depthAll (M.map rowI) ≤ 2 := depth_all fun d hd => by
    obtain ⟨r, _, rfl⟩ := List.mem_map.mp hd
    have := depth_ints r
    simp [rowI, PyData.depth]; omega
  unfold matD
  simp only [SeqAt.shaped, PyData.canLay0, PyData.depth, l1, Bool.true_and]
  first | (simp; omega) | omega
theorem any_ints {xs : List Int} {x : Int} (h : x ∈ xs) : (xs.map PyData.int).any (fun y => PyData.eqv y (.int x)) = true := by
  rw [List.any_eq_true]
  exact ⟨.int x, List.mem_map.mpr ⟨x, h, rfl⟩, by simp [PyData.eqv]⟩
/-- a comprehension with a test, of its own numbers -/
theorem CompGo_filter {C : Cx} {A : Around} {l2 : List (Str × Value)} {sc : Scope} {x : Str} {elt : PySem.Expr} {ifs : List PySem.Expr} {capt : Loc} {K : List V → AH → Prop} {n : Nat} {P : Nat → V} {Cd : AH → Prop} {σ1 : AH} (p : Nat → Bool) (f : Nat → V) (hz : n ≤ sizeLine) (hcd : Cd σ1)
    (h : ∀ i pv, i < n → P i = pv → ∀ cenv, Kn cenv (relab sc.names) → WIf (C.wg l2) A cenv true ifs ((x, some pv) :: capt) σ1 (fun b σ2 => b = p i ∧ σ2 = σ1) (fun _ _ => False))
    (he : ∀ i pv, i < n → p i = true → P i = pv → ∀ cenv, Kn cenv (relab sc.names) → WE (C.wg l2) A cenv elt ((x, some pv) :: capt) σ1 (fun v σ3 => v = f i ∧ σ3 = σ1) (fun _ _ => False))
    (hk : K (((List.range n).filter p).map f) σ1) : CompGo C A l2 sc x ifs elt capt K n P Cd σ1 := by
  refine ⟨hz, fun i acc σ' => σ' = σ1 ∧ acc = ((List.range i).filter p).map f, ⟨rfl, rfl⟩, ?_, ?_⟩
  · rintro i acc σ' pv hi hp ⟨rfl, rfl⟩
    refine ⟨hcd, fun cenv hc => ?_⟩
    refine ⟨fun ad s hr er => wpAny_mono ((h i pv hi hp cenv hc).run ad s hr er) ?_ fun _ _ x => x⟩
    rintro b s1 ⟨ad1, σ2, n1, rfl, rfl⟩
    refine ⟨ad1, _, n1, ?_⟩
    cases hb : p i with
    | true =>
      rw [if_pos rfl]
      refine (he i pv hi hb hp cenv hc).conseq ?_
      rintro v σ3 ⟨rfl, rfl⟩
      refine ⟨rfl, ?_⟩
      rw [List.range_succ, List.filter_append, List.map_append, List.filter_cons, if_pos hb]; rfl
    | false =>
      rw [if_neg (by decide)]
      refine ⟨rfl, ?_⟩
      rw [List.range_succ, List.filter_append, List.filter_cons, if_neg (by rw [hb]; decide)]; simp
  · rintro acc σ' ⟨rfl, rfl⟩
    exact ⟨hcd, hk⟩
theorem law_main {C : Cx} (c : Law C) {a : Addr} {ns : List Int} (hg : (a, O.list (ns.map .int)) ∈ C.gob) (hl : ns.length ≤ 63) (_ht : ∀ x ∈ topObjs, x ∈ C.gob) : WC C callerA (.ref 242) [.k (.ref a)] [] (fun v _ => v = .bool true) (fun _ _ => False) := by
  refine WC_def (pn := [Str.ofString "script"]) (ln := [Str.ofString "rows", Str.ofString "levels", Str.ofString "width", Str.ofString "height", Str.ofString "tree", Str.ofString "parts", Str.ofString "values", Str.ofString "back", Str.ofString "under", Str.ofString "low", Str.ofString "k"]) (gl := [(Str.ofString "_law_image", Value.ref 237), (Str.ofString "_law_cell", Value.ref 232), (Str.ofString "len", Value.builtin "len"), (Str.ofString "Trees", Value.ref 207), (Str.ofString "forward_waves", Value.ref 150), (Str.ofString "range", Value.type "range"), (Str.ofString "shapes", Value.ref 157), (Str.ofString "sum", Value.builtin "sum")]) (dv := []) (ds := []) (c.K _ _ rfl) rfl (codeRec_of c.K (by kernel_rfl)) (by first | exact Room.dep0 (by assumption) | assumption | omega | exact Nat.le_of_ble_eq_true rfl) .nil rfl (fun x v h => c.glo x v ((show ∀ p ∈ ([(Str.ofString "_law_image", Value.ref 237), (Str.ofString "_law_cell", Value.ref 232), (Str.ofString "len", Value.builtin "len"), (Str.ofString "Trees", Value.ref 207), (Str.ofString "forward_waves", Value.ref 150), (Str.ofString "range", Value.type "range"), (Str.ofString "shapes", Value.ref 157), (Str.ofString "sum", Value.builtin "sum")] : List (Str × Value)), p ∈ lawGlo by decide +kernel) (x, v) h)) ?_ (by decide +kernel) (by decide +kernel) (by decide +kernel) (by decide +kernel) ?_
  · intro s xs hkp hl
    obtain ⟨x0, rfl⟩ := len1 hl
    first | exact BindsTo.of_eq rfl | exact BindsTo.of_defaults rfl (hkp _ _ (c.K _ _ rfl)) rfl rfl rfl
  intro env henv
  replace c := c.wg [(Str.ofString "_law_image", Value.ref 237), (Str.ofString "_law_cell", Value.ref 232), (Str.ofString "len", Value.builtin "len"), (Str.ofString "Trees", Value.ref 207), (Str.ofString "forward_waves", Value.ref 150), (Str.ofString "range", Value.type "range"), (Str.ofString "shapes", Value.ref 157), (Str.ofString "sum", Value.builtin "sum")]
  show WSs (C.wg [(Str.ofString "_law_image", Value.ref 237), (Str.ofString "_law_cell", Value.ref 232), (Str.ofString "len", Value.builtin "len"), (Str.ofString "Trees", Value.ref 207), (Str.ofString "forward_waves", Value.ref 150), (Str.ofString "range", Value.type "range"), (Str.ofString "shapes", Value.ref 157), (Str.ofString "sum", Value.builtin "sum")]) _ _ _ [(Str.ofString "script", some (.k (.ref a))), (Str.ofString "rows", none), (Str.ofString "levels", none), (Str.ofString "width", none), (Str.ofString "height", none), (Str.ofString "tree", none), (Str.ofString "parts", none), (Str.ofString "values", none), (Str.ofString "back", none), (Str.ofString "under", none), (Str.ofString "low", none), (Str.ofString "k", none)] _ _ _
  have rm : Room (callerA.deeper env) 60 := ⟨rfl, Nat.le_of_ble_eq_true rfl, Nat.le_of_ble_eq_true rfl⟩
  generalize callerA.deeper env = A at *
  walk_at "xx"
  refine WE_call (C := C) (by walk_at "mem") c.c237 ?_
  walk_at "xx"
  refine law_image_spec c rm.le hg hl fun vi J0 M H W hH1 hH hW1 hW lM hM ri => ?_
  simp only [List.nil_append] at ri ⊢
  obtain ⟨is, oi, rri⟩ := ri.list_inv
  obtain ⟨vrow, rfl, rrow⟩ := rri.inv1
  walk_at "xx"
  refine item_list oi (by decide) (by decide) rfl ?_
  walk_at "xx"
  refine WE_call (C := C) (by walk_at "mem") c.c232 ?_
  walk_at "xx"
  refine cell_spec c rm.dep0 hg hl (by decide) ?_
  walk_at "xx"
  have l0 : 0 ≤ (ns.getD (Int.toNat 5) 0).fmod 4 := Int.fmod_nonneg_of_pos _ (by decide)
  have l1 : (ns.getD (Int.toNat 5) 0).fmod 4 < 4 := Int.fmod_lt_of_pos _ (by decide)
  obtain ⟨L, hL⟩ : ∃ L : Nat, (ns.getD (Int.toNat 5) 0).fmod 4 = (L : Int) := ⟨((ns.getD (Int.toNat 5) 0).fmod 4).toNat, by omega⟩
  rw [hL] at l0 l1 ⊢
  clear hL
  have hL3 : L ≤ 3 := by omega
  obtain ⟨xs, ox, lx, hx⟩ := rrow.mat
  obtain ⟨x0, hx0, r0⟩ := hx 0 (M[0]'(by omega)) (by simp [show 0 < M.length by omega])
  have lr0 : (M[0]'(by omega)).length = W := hM _ (List.getElem_mem _)
  refine WE_call (C := C) (by walk_at "mem") callable_builtin ?_
  walk_at "xx"
  refine item_list ox (by decide) (by decide) hx0 ?_
  walk_at "xx"
  refine WC_lenI r0.rowI_inv lr0 (Nat.le_trans hW (Nat.le_of_ble_eq_true rfl)) ?_
  walk_at "xx"
  refine WE_call (C := C) (by walk_at "mem") callable_builtin ?_
  walk_at "xx"
  refine WC_lenE ox (lx.trans lM) (Nat.le_trans hH (Nat.le_of_ble_eq_true rfl)) ?_
  walk_at "xx"
  have tok := tree_ok hW1 hW hH1 hH hL3
  have hn : W * H ≤ 49 := Nat.mul_le_mul hW hH
  have zn : W * H ≤ 100000 := Nat.le_trans hn (Nat.le_of_ble_eq_true rfl)
  have zW : W ≤ 100000 := Nat.le_trans hW (Nat.le_of_ble_eq_true rfl)
  refine WE_call (C := C) (by walk_at "mem") c.c207 ?_
  walk_at "xx"
  refine WC_new (fI := 169) c.K clsT (by kernel_rfl) (by kernel_rfl) fun us => ?_
  refine init_tree c rm.make.le hW1 hW hH1 hH hL3 fun J1 tr => ⟨rfl, ?_⟩
  have rrow1 := rrow.up (J := J1)
  generalize hσ : J0 ++ J1 = σ at *
  generalize ht : J0.length + 1 = t at *
  clear hσ ht ox hx hx0 r0 oi rri ri rrow
  walk_at "xx"
  refine WE_meth ?_
  walk_at "xx"
  refine WM_tree (f := 183) c tr (by kernel_rfl) (by kernel_rfl) (by decide +kernel) ⟨callable_K c.K (by kernel_rfl), ?_⟩
  walk_at "xx"
  refine size_spec c rm.le tr tok hn ?_
  walk_at "xx"
  refine mul_nn zW ?_
  walk_at "xx"
  refine ite_f (bne_self_eq_false _) ?_
  walk_at "xx"
  refine WE_call (C := C) (by walk_at "mem") c.c150 ?_
  walk_at "xx"
  refine waves_spec c rm.le (by omega) rrow1 (by omega) (by omega) hM hW1 (by omega) fun jp J2 vl vb low B hjp rl rb dl dw dB => ?_
  rw [lM] at dl dB
  walk_at "xx"
  have tr2 := tr.up (J := J2)
  have hlen := flatB_len W H L low B dl dw dB
  have ltot : (flatB low B L (3 * L)).length = W * H := by rw [hlen _ (Nat.le_refl _), tok.tot]
  have ebk := flat_back W H L (flatB low B L (3 * L)) (3 * L) (Nat.le_refl _)
  rw [tok.tot, List.take_of_length_le (by omega)] at ebk
  have elow : rowsP (flatB low B L (3 * L)) 0 (half W L) (half H L) = low := back_low W H L low _ dl dw
  clear hlen
  refine WE_meth ?_
  walk_at "xx"
  refine WM_tree (f := 190) c tr2 (by kernel_rfl) (by kernel_rfl) (by decide +kernel) ⟨callable_K c.K (by kernel_rfl), ?_⟩
  walk_at "xx"
  refine flat_spec c rm.le hjp rl rb (by omega) fun vv J3 rv => ?_
  walk_at "xx"
  have tr3 := tr2.up (J := J3)
  generalize hv : flatB low B L (3 * L) = v at *
  refine WE_meth ?_
  walk_at "xx"
  refine WM_tree (f := 197) c tr3 (by kernel_rfl) (by kernel_rfl) (by decide +kernel) ⟨callable_K c.K (by kernel_rfl), ?_⟩
  walk_at "xx"
  refine parts_spec c rm.le tr3 (by omega) (by omega) (by omega) rv (by omega) fun jb J4 vl2 vb2 hjb rl2 rb2 => ?_
  rw [elow] at rl2
  walk_at "xx"
  have nd : ∀ x y : V, ((([(Str.ofString "low", x), (Str.ofString "bands", y)] : List (Str × V))).map (·.1)).Nodup := fun x y => by show [Str.ofString "low", Str.ofString "bands"].Nodup; decide +kernel
  refine item_dict (v := vl2) hjb (nd _ _) (by kernel_rfl) ?_
  walk_at "xx"
  refine item_dict (v := vl) (gl_up (gl_up hjp)) (nd _ _) (by kernel_rfl) ?_
  refine ne_dd rl2 rl.up.up matD_shaped matD_shaped rm.u ?_
  rw [matD_eqv]
  walk_at "xx"
  have tr4 := tr3.up (J := J4)
  refine WE_meth ?_
  walk_at "xx"
  refine WM_tree (f := 190) c tr4 (by kernel_rfl) (by kernel_rfl) (by decide +kernel) ⟨callable_K c.K (by kernel_rfl), ?_⟩
  walk_at "xx"
  rw [elow] at ebk
  refine flat_spec c rm.le hjb rl2 rb2 (by rw [ebk]; omega) fun vv2 J5 rv2 => ?_
  rw [ebk] at rv2
  walk_at "xx"
  refine ne_dd rv2 rv.up.up rowI_shaped rowI_shaped rm.u ?_
  rw [rowI_eqv]
  walk_at "xx"
  have tr5 := tr4.up (J := J5)
  refine WE_meth ?_
  walk_at "xx"
  refine WM_tree (f := 204) c tr5 (by kernel_rfl) (by kernel_rfl) (by decide +kernel) ⟨callable_K c.K (by kernel_rfl), ?_⟩
  walk_at "xx"
  refine gu_spec c rm.le tr5 tok hn rv.up.up ltot fun vu J6 ru => ?_
  walk_at "xx"
  have tr6 := tr5.up (J := J6)
  have rv6 := rv.up (J := J4) |>.up (J := J5) |>.up (J := J6)
  clear tr tr2 tr3 tr4 tr5 rv2 rl rb rl2 rb2 hjp hjb ebk elow dl dw dB rrow1 hv
  generalize σ ++ J2 ++ J3 ++ J4 ++ J5 ++ J6 = S6 at *
  have lP : (psM W H L (3 * L)).length = W * H := by rw [psM_len, tok.tot]
  have lD : (dsM W H L (3 * L)).length = W * H := by rw [dsM_len, tok.tot]
  have tup := tok.up
  have tlo := tok.lo
  have tdep := tok.dep
  have troot := tok.roots
  have tkid := kids_total tok
  have tlow := tok.low
  obtain ⟨d, js, jq, jd, jc, g1, g2, g3, g4, g5, g6⟩ := tr6.ex
  clear tr6 tok
  generalize hP : psM W H L (3 * L) = P at *
  generalize hD : dsM W H L (3 * L) = D at *
  generalize hnn : W * H = n at *
  have egu : guP P v n (n - 1) = (List.range n).map fun k => grt P v n k := by
    apply List.ext_getElem
    · rw [guP_len]; simp
    · intro k h1 h2
      rw [guP_len] at h1
      have := gu_grt P v (fun c hc => tup c (by omega)) (u := k) (by omega)
      rw [lP] at this
      rw [List.getElem_map, List.getElem_range, ← this, List.getD, List.getElem?_eq_getElem (by rw [guP_len]; exact h1)]
      rfl
  rw [egu] at ru
  clear egu
  refine WE_ListComp2 (C := C) (l2 := [(Str.ofString "plain_greatest", Value.ref 225)]) (capt := [(Str.ofString "tree", some (.ref t)), (Str.ofString "values", some vv)]) henv
    (by show compOk _ _ _ [Str.ofString "tree", Str.ofString "values"] [Str.ofString "plain_greatest"] = true; decide +kernel) (by show [Str.ofString "tree", Str.ofString "values"].Nodup; decide +kernel) (by
      intro p hp
      simp only [List.mem_cons, List.not_mem_nil, or_false] at hp
      rcases hp with rfl | rfl <;> walk_at "mem") (by intro p hp; rw [List.mem_singleton.mp hp]; exact .inr (c.glo _ _ (by decide +kernel))) ?_
  refine WItr_rng rm.han (by walk_at "mem") ?_
  walk_at "xx"
  refine WE_call (C := C) (by walk_at "mem") callable_builtin ?_
  walk_at "xx"
  refine WC_lenI rv6.rowI_inv ltot zn ?_
  walk_at "xx"
  refine exRng zn ?_
  refine CompGo_ints (f := fun k => grt P v n k) (sz_le (Nat.le_refl _) zn) trivial ?_ ?_
  · rintro k pv hk rfl cenv _
    refine WE_call (C := C) (by walk_at "mem") c.c225 ?_
    walk_at "xx"
    refine at_children (c.wg _) g1 g2 ?_
    walk_at "xx"
    refine pg_spec n (P := P) (v := v) (n := n) (c.wg _) (rm.le (by omega)) g6.gw.wg rv6.gw.wg lP ltot hn tup hk (by omega) ⟨rfl, rfl⟩
  refine ne_dd ru.up (Rd.lst (.new rfl)) rowI_shaped (shaped_ints _) rm.u ?_
  rw [show PyData.eqv (rowI ((List.range n).map fun k => grt P v n k)) (.list (((List.range n).map fun k => grt P v n k).map PyData.int)) = true from rowI_eqv]
  walk_at "xx"
  refine WE_call (C := C) (by walk_at "mem") c.c157 ?_
  walk_at "xx"
  refine shapes_spec c rm.le (by omega) Sh.refl fun vs J7 rs => ?_
  walk_at "xx"
  obtain ⟨zs, oz, rz⟩ := rs.tuple_inv
  obtain ⟨vlo, vbb, rfl, rlo, rbb⟩ := rz.inv2
  refine item_tuple oz (by decide) (by decide) rfl ?_
  have plo := rlo.pair
  walk_at "xx"
  have h1 := gl_up (J := J7) (gl_up (J := [O.list (((List.range n).map fun k => grt P v n k).map .int)]) g1)
  have h2 := gl_up (J := J7) (gl_up (J := [O.list (((List.range n).map fun k => grt P v n k).map .int)]) g2)
  have h4 := gl_up (J := J7) (gl_up (J := [O.list (((List.range n).map fun k => grt P v n k).map .int)]) g4)
  have h5 := gl_up (J := J7) (gl_up (J := [O.list (((List.range n).map fun k => grt P v n k).map .int)]) g5)
  have h6 := g6.up (J := [O.list (((List.range n).map fun k => grt P v n k).map .int)]) |>.up (J := J7)
  have hv7 := rv6.up (J := [O.list (((List.range n).map fun k => grt P v n k).map .int)]) |>.up (J := J7) |>.rowI_inv
  clear g1 g2 g3 g4 g5 g6 rv6 ru rs oz rz rlo rbb
  generalize S6 ++ [O.list (((List.range n).map fun k => grt P v n k).map .int)] ++ J7 = S7 at *
  refine WE_ListComp2 (C := C) (l2 := []) (capt := [(Str.ofString "tree", some (.ref t))]) henv (by show compOk _ _ _ [Str.ofString "tree"] [] = true; decide +kernel) (by simp) (by intro p hp; rw [List.mem_singleton.mp hp]; walk_at "mem") (by simp) ?_
  refine WItr_rng rm.han (by walk_at "mem") ?_
  walk_at "xx"
  refine WE_call (C := C) (by walk_at "mem") callable_builtin ?_
  walk_at "xx"
  refine WC_lenI hv7 ltot zn ?_
  walk_at "xx"
  refine exRng zn ?_
  refine CompGo_filter (fun k => decide (P.getD k 0 < 0)) (fun k => .int (k : Nat)) (sz_le (Nat.le_refl _) zn) trivial ?_ ?_ ?_
  · rintro k pv hk rfl cenv _
    walk_at "xx"
    refine at_parents (c.wg _) h1 h2 ?_
    walk_at "xx"
    refine item_intN (show ObjAt _ _ (.ref jq) _ from h4) (by rw [lP]; exact zn) (by rw [lP]; exact hk) ?_
    walk_at "xx"
    exact ⟨rfl, rfl⟩
  · rintro k pv hk hp rfl cenv _
    walk_at "xx"
    exact ⟨rfl, rfl⟩
  rw [troot]
  walk_at "xx"
  refine WE_ListComp2 (C := C) (l2 := []) (capt := []) henv (by show compOk _ _ _ [] [] = true; decide +kernel) (by simp) (by simp) (by simp) ?_
  refine WItr_rng rm.han (by walk_at "mem") ?_
  walk_at "xx"
  refine item_tuple plo.up (by decide) (by decide) rfl ?_
  walk_at "xx"
  refine item_tuple plo.up (by decide) (by decide) rfl ?_
  have hwl : half W L ≤ 100000 := Nat.le_trans (half_le W (Nat.le_trans hW (Nat.le_of_ble_eq_true rfl)) L) (Nat.le_of_ble_eq_true rfl)
  have zlow : half W L * half H L ≤ 100000 := Nat.le_trans tlow zn
  refine mul_nn hwl ?_
  walk_at "xx"
  refine exRng zlow ?_
  refine CompGo_ints (f := fun k => (k : Int)) (sz_le (Nat.le_refl _) zlow) trivial ?_ ?_
  · rintro k pv hk rfl cenv _
    walk_at "xx"
    exact ⟨rfl, rfl⟩
  have ea : (List.range (half W L * half H L)).map (fun k => V.int (k : Nat)) = ((List.range (half W L * half H L)).map fun (k : Nat) => (k : Int)).map V.int := by rw [List.map_map]; rfl
  rw [ea]
  refine ne_dd (Rd.lst (ObjAt.up (.new rfl))) (Rd.lst (.new rfl)) (shaped_ints _) (shaped_ints _) rm.u ?_
  rw [show PyData.eqv (.list (((List.range (half W L * half H L)).map fun (k : Nat) => (k : Int)).map PyData.int)) (.list (((List.range (half W L * half H L)).map fun (k : Nat) => (k : Int)).map PyData.int)) = true from eqv_ints _]
  walk_at "xx"
  have k1 := gl_up (J := [O.list (((List.range (half W L * half H L)).map fun (k : Nat) => (k : Int)).map V.int)] ++ [O.list (((List.range (half W L * half H L)).map fun (k : Nat) => (k : Int)).map V.int)]) h1
  have k2 := gl_up (J := [O.list (((List.range (half W L * half H L)).map fun (k : Nat) => (k : Int)).map V.int)] ++ [O.list (((List.range (half W L * half H L)).map fun (k : Nat) => (k : Int)).map V.int)]) h2
  have k4 := gl_up (J := [O.list (((List.range (half W L * half H L)).map fun (k : Nat) => (k : Int)).map V.int)] ++ [O.list (((List.range (half W L * half H L)).map fun (k : Nat) => (k : Int)).map V.int)]) h4
  have k5 := gl_up (J := [O.list (((List.range (half W L * half H L)).map fun (k : Nat) => (k : Int)).map V.int)] ++ [O.list (((List.range (half W L * half H L)).map fun (k : Nat) => (k : Int)).map V.int)]) h5
  have k6 := h6.up (J := [O.list (((List.range (half W L * half H L)).map fun (k : Nat) => (k : Int)).map V.int)] ++ [O.list (((List.range (half W L * half H L)).map fun (k : Nat) => (k : Int)).map V.int)])
  have kv := hv7.up (J := [O.list (((List.range (half W L * half H L)).map fun (k : Nat) => (k : Int)).map V.int)] ++ [O.list (((List.range (half W L * half H L)).map fun (k : Nat) => (k : Int)).map V.int)])
  have kl := plo.up (J := [O.list (((List.range (half W L * half H L)).map fun (k : Nat) => (k : Int)).map V.int)] ++ [O.list (((List.range (half W L * half H L)).map fun (k : Nat) => (k : Int)).map V.int)])
  rw [← List.append_assoc] at k1 k2 k4 k5 k6 kv kl
  clear h1 h2 h4 h5 h6 hv7 plo ea
  generalize S7 ++ [O.list (((List.range (half W L * half H L)).map fun (k : Nat) => (k : Int)).map V.int)] ++ [O.list (((List.range (half W L * half H L)).map fun (k : Nat) => (k : Int)).map V.int)] = S8 at *
  obtain ⟨cs, oc, rc⟩ := k6.list_inv
  have lc : cs.length = n := by have := rc.len; simpa using this
  have zP : P.length ≤ 100000 := by rw [lP]; exact zn
  have zD : D.length ≤ 100000 := by rw [lD]; exact zn
  have zC : cs.length ≤ 100000 := by rw [lc]; exact zn
  refine WS_for (WItr_rng rm.han (by walk_at "mem") ?_)
  walk_at "xx"
  refine WE_call (C := C) (by walk_at "mem") callable_builtin ?_
  walk_at "xx"
  refine WC_lenI kv ltot zn ?_
  walk_at "xx"
  refine exRng zn ?_
  refine ⟨fun k ρ' σ' => σ' = S8 ∧ ∃ t1, ρ' = ([(Str.ofString "script", some (.k (.ref a))), (Str.ofString "rows", some vrow), (Str.ofString "levels", some (.int L)), (Str.ofString "width", some (.int W)), (Str.ofString "height", some (.int H)), (Str.ofString "tree", some (.ref t)), (Str.ofString "parts", some (.ref jp)), (Str.ofString "values", some vv), (Str.ofString "back", some (.ref jb)), (Str.ofString "under", some vu), (Str.ofString "low", some vlo), (Str.ofString "k", t1)] : Loc), ⟨rfl, _, rfl⟩, ?_, ?_⟩
  · rintro k ρ' σ' hk ⟨rfl, t1, rfl⟩
    refine ⟨trivial, ?_⟩
    have up := tup k hk
    have kP : k < P.length := by rw [lP]; exact hk
    walk_at "xx"
    refine at_parents c k1 k2 ?_
    walk_at "xx"
    refine item_intN (show ObjAt _ _ (.ref jq) _ from k4) zP kP ?_
    walk_at "xx"
    refine ite_b (fun hb => ?_) fun hb => ?_
    · have hb' := of_decide_eq_true hb
      have dep := tdep k hk hb'
      obtain ⟨u, hu⟩ : ∃ u : Nat, P.getD k 0 = (u : Int) := Int.eq_ofNat_of_zero_le hb'
      rw [hu] at dep up
      have un : u < n := Nat.lt_trans (Int.ofNat_lt.mp up) hk
      have uD : u < D.length := by rw [lD]; exact un
      have kD : k < D.length := by rw [lD]; exact hk
      obtain ⟨cu, hcu, rcu⟩ := rc.get (i := u) (d := rowI ((kids P u).map fun (c : Nat) => (c : Int))) (by rw [List.getElem?_map, List.getElem?_range un]; rfl)
      walk_at "xx"
      refine at_parents c k1 k2 ?_
      walk_at "xx"
      refine item_intN (show ObjAt _ _ (.ref jq) _ from k4) zP kP ?_
      walk_at "xx"
      refine ite_f (decide_eq_false (by rw [hu]; exact Int.not_le.mpr up)) ?_
      walk_at "xx"
      refine at_depths c k1 k2 ?_
      walk_at "xx"
      refine at_parents c k1 k2 ?_
      walk_at "xx"
      refine item_intN (show ObjAt _ _ (.ref jq) _ from k4) zP kP ?_
      refine item_intE (show ObjAt _ _ (.ref jd) _ from k5) hu zD uD ?_
      walk_at "xx"
      refine at_depths c k1 k2 ?_
      walk_at "xx"
      refine item_intN (show ObjAt _ _ (.ref jd) _ from k5) zD kD ?_
      walk_at "xx"
      refine ite_f (decide_eq_false (Int.not_le.mpr dep)) ?_
      walk_at "xx"
      refine at_children c k1 k2 ?_
      walk_at "xx"
      refine at_parents c k1 k2 ?_
      walk_at "xx"
      refine item_intN (show ObjAt _ _ (.ref jq) _ from k4) zP kP ?_
      refine item_listE oc hu zC hcu ?_
      walk_at "xx"
      refine nin_list_dd .int rcu rowI_shaped rfl rm.u ?_
      rw [any_ints (List.mem_map.mpr ⟨k, mem_kids.mpr ⟨kP, hu⟩, rfl⟩)]
      walk_at "xx"
      exact ⟨rfl, _, rfl⟩
    · walk_at "xx"
      exact ⟨rfl, _, rfl⟩
  rintro ρ' σ' ⟨rfl, t1, rfl⟩
  refine ⟨trivial, ?_⟩
  walk_at "xx"
  refine WE_call (C := C) (by walk_at "mem") callable_builtin ?_
  walk_at "xx"
  refine WE_ListComp2 (C := C) (l2 := [(Str.ofString "len", Value.builtin "len")]) (capt := []) henv (by show compOk _ _ _ [] [Str.ofString "len"] = true; decide +kernel) (by simp) (by simp) (by intro p hp; rw [List.mem_singleton.mp hp]; exact .inr (c.glo _ _ (by decide +kernel))) ?_
  refine WItr_of ?_
  walk_at "xx"
  refine at_children c k1 k2 ?_
  refine ⟨_, _, _, Itb_list rm.han oc, ?_⟩
  rw [lc]
  refine CompGo_ints (f := fun k => ((kids P k).length : Int)) (sz_le (Nat.le_refl _) zn) oc ?_ ?_
  · rintro k pv hk hp cenv _
    obtain ⟨cu, hcu, rcu⟩ := rc.get (i := k) (d := rowI ((kids P k).map fun (c : Nat) => (c : Int))) (by rw [List.getElem?_map, List.getElem?_range hk]; rfl)
    have epv : cu = pv := by rw [← hp, List.getD, hcu]; rfl
    subst epv
    have lk : (kids P k).length ≤ n := by
      have := List.length_filter_le (fun c => P.getD c 0 == (k : Int)) (List.range P.length)
      rw [List.length_range] at this
      show (List.filter _ _).length ≤ n
      omega
    refine WE_call (C := C) (by walk_at "mem") callable_builtin ?_
    walk_at "xx"
    exact WC_lenI rcu.rowI_inv (by rw [List.length_map]) (Nat.le_trans lk zn) ⟨rfl, rfl⟩
  walk_at "xx"
  refine WC_sum rm.han (.new rfl) ?_
  walk_at "xx"
  refine WE_call (C := C) (by walk_at "mem") callable_builtin ?_
  walk_at "xx"
  refine WC_lenI kv.up ltot zn ?_
  walk_at "xx"
  refine item_tuple kl.up (by decide) (by decide) rfl ?_
  walk_at "xx"
  refine item_tuple kl.up (by decide) (by decide) rfl ?_
  refine mul_nn hwl ?_
  walk_at "xx"
  have es : ((List.range n).map fun k => ((kids P k).length : Int)).sum = ((W * H - half W L * half H L : Nat) : Int) := by
    rw [hnn, ← tkid]
    generalize List.range n = l
    induction l with
    | nil => rfl
    | cons x l ih => rw [List.map_cons, List.sum_cons, ih, List.map_cons, List.sum_cons]; omega
  rw [es, hnn]
  have : (((n - half W L * half H L : Nat) : Int) == (n : Int) - ((half W L * half H L : Nat) : Int)) = true := by rw [beq_iff_eq]; omega
  show V.bool _ = V.bool true
  rw [this]
end Mine
open PySem PySem.W PyProof.Rows Mine
theorem PySem.Challenge.cw_ui0502_14_holds : PySem.Challenge.rw_ui0502_14.Holds := by
  refine Mine.hd.all ?_
  intro w s₀ s₁ mg mb G Y fa o pm cd doc dV kV ho hd' hcd hD hmg hg args vals as hpre hlay hrd hwl hlo
  have KX : (hd.heap_39 w.params).In s₁.heap := kIn_of (K := hd.heap_39) (as := hd.as) (e := fun _ => by kernel_rfl) Y
  refine Ground.open G ?_
  intro T B D TE TW
  have hfa : fa = 242 := by
    have h1 := mg_of (n := Str.ofString "law") KX T.g (v := .ref 242) (by kernel_rfl)
    have h2 : mg (Str.ofString "law") = some (.ref fa) := hmg
    rw [h1] at h2
    injection h2 with h2
    injection h2 with h2
    exact h2.symm
  subst hfa
  clear hd' hcd hD hmg ho
  wrow_args hpre hlay hrd hwl hlo
  rename_i ns _ _ _ _ _ _ _ a vs _ hL _ _ _ hI _ hlen _
  let C : Cx := { prog := PySem.Challenge.rw_ui0502_14.row.prog, w := w, G := s₁.heap, gob := (a, .list (ns.map .int)) :: topObjs, glo := [], mg := mg, mb := mb }
  have glb : ∀ x v, nsIn (hd.heap_39 w.params) mainGlobals x = some none → bootBuiltins x = some v → x ≠ Str.ofString "__name__" → mg x = some v ∨ (mg x = none ∧ mb x = some v) :=
    fun x v e1 e2 e3 => .inr ⟨mg_none_of KX T.g e1, (T.builtins x e3).trans e2⟩
  have c : Law C := by
    refine ⟨KX, fun x hx => List.mem_cons_of_mem _ hx, ?_, ?_⟩
    rotate_left
    · obtain ⟨C', O, _⟩ := T.ownAt (x := Str.ofString "PackError") (newId := "ValueError.__new__") (bm := [.type "ValueError", .type "Exception", .type "BaseException", .type "object"]) (by kernel_rfl)
      have h1 : mg (Str.ofString "PackError") = some (.ref 24) := mg_of KX T.g (by kernel_rfl)
      have h2 := O.bound
      rw [h1] at h2
      injection h2 with h2
      injection h2 with h2
      subst h2
      exact O.own
    intro x v hx
    simp only [lawGlo, List.mem_cons, List.not_mem_nil, or_false] at hx
    rcases hx with e | e | e | e | e | e | e | e | e | e | e | e | e | e | e | e | e | e | e | e | e | e | e | e | e | e | e | e | e | e | e | e | e | e <;> cases e
    · exact glb _ _ (by kernel_rfl) (by boot_by_name) (by decide)
    · exact glb _ _ (by kernel_rfl) (by boot_by_name) (by decide)
    · exact glb _ _ (by kernel_rfl) (by boot_by_name) (by decide)
    · exact glb _ _ (by kernel_rfl) (by boot_by_name) (by decide)
    · exact glb _ _ (by kernel_rfl) (by boot_by_name) (by decide)
    · exact glb _ _ (by kernel_rfl) (by boot_by_name) (by decide)
    · exact glb _ _ (by kernel_rfl) (by boot_by_name) (by decide)
    · exact glb _ _ (by kernel_rfl) (by boot_by_name) (by decide)
    · exact glb _ _ (by kernel_rfl) (by boot_by_name) (by decide)
    · exact glb _ _ (by kernel_rfl) (by boot_by_name) (by decide)
    · exact glb _ _ (by kernel_rfl) (by boot_by_name) (by decide)
    · exact glb _ _ (by kernel_rfl) (by boot_by_name) (by decide)
    · exact .inl (mg_of KX T.g (by kernel_rfl))
    · exact .inl (mg_of KX T.g (by kernel_rfl))
    · exact .inl (mg_of KX T.g (by kernel_rfl))
    · exact .inl (mg_of KX T.g (by kernel_rfl))
    · exact .inl (mg_of KX T.g (by kernel_rfl))
    · exact .inl (mg_of KX T.g (by kernel_rfl))
    · exact .inl (mg_of KX T.g (by kernel_rfl))
    · exact .inl (mg_of KX T.g (by kernel_rfl))
    · exact .inl (mg_of KX T.g (by kernel_rfl))
    · exact .inl (mg_of KX T.g (by kernel_rfl))
    · exact .inl (mg_of KX T.g (by kernel_rfl))
    · exact .inl (mg_of KX T.g (by kernel_rfl))
    · exact .inl (mg_of KX T.g (by kernel_rfl))
    · exact .inl (mg_of KX T.g (by kernel_rfl))
    · exact .inl (mg_of KX T.g (by kernel_rfl))
    · exact .inl (mg_of KX T.g (by kernel_rfl))
    · exact .inl (mg_of KX T.g (by kernel_rfl))
    · exact .inl (mg_of KX T.g (by kernel_rfl))
    · exact .inl (mg_of KX T.g (by kernel_rfl))
    · exact .inl (mg_of KX T.g (by kernel_rfl))
    · exact .inl (mg_of KX T.g (by kernel_rfl))
    · exact .inl (mg_of KX T.g (by kernel_rfl))
  have ok : C.Ok := by
    refine ⟨?_, T.g, T.b, fun x v hx => (nomatch hx), T.nolimit⟩
    · intro b o hb
      rcases List.mem_cons.mp hb with e | hb'
      · cases e
        exact ⟨vs.toArray, hL, by simpa using RVs.ints hI⟩
      · exact topObjs_ok KX b o hb'
  exact bridge PySem.Challenge.rw_ui0502_14 (C := C) rfl rfl rfl ok hg (law_main c (.head _) (by omega) (fun x hx => List.mem_cons_of_mem _ hx))

