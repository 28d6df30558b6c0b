/- The law on the log: what is told slot by slot. -/
import Derived.Test.YtakcaanpnmkccaaR5
namespace Go.Av
open Go.Proofs
set_option maxRecDepth 100000
set_option maxHeartbeats 2000000
set_option linter.unusedVariables false
set_option linter.unusedSimpArgs false

theorem okX_code {code : List Int} (h1 : code.length ≤ 1048576) (h2 : ∀ x ∈ code, (Lit.int .u8 x).wf = true) : okX code 0 := by
  refine ⟨h1, fun x hx => ?_, by omega, by omega⟩
  have := h2 x hx
  simp [Lit.wf, IntKind.min, IntKind.max, IntKind.bits, IntKind.signed] at this
  omega
theorem logFrom_at (f : Int) (l : List Msg) : ∀ (n s i : Nat), i < (logFrom f l s n).length → ∃ r, decidedL f l ((s + i : Nat) : Int) = (logFrom f l s n).getD i default :: r
  | 0, s, i, h => by simp [logFrom] at h
  | n + 1, s, i, h => by
    unfold logFrom at h ⊢
    cases hd : decidedL f l s with
    | nil => rw [hd] at h; simp at h
    | cons v r =>
      rw [hd] at h
      simp only at h ⊢
      cases i with
      | zero => exact ⟨r, by simpa using hd⟩
      | succ i =>
        obtain ⟨r2, h2⟩ := logFrom_at f l n (s + 1) i (by simpa using h)
        refine ⟨r2, ?_⟩
        rw [show s + (i + 1) = s + 1 + i by omega, h2]
        simp
theorem logFrom_end (f : Int) (l : List Msg) : ∀ (n s : Nat), (logFrom f l s n).length < n → decidedL f l ((s + (logFrom f l s n).length : Nat) : Int) = []
  | 0, s, h => by simp at h
  | n + 1, s, h => by
    unfold logFrom at h ⊢
    cases hd : decidedL f l s with
    | nil => simp [hd]
    | cons v r =>
      rw [hd] at h
      simp only [List.length_cons] at h ⊢
      have := logFrom_end f l n (s + 1) (by omega)
      rw [show s + ((logFrom f l (s + 1) n).length + 1) = s + 1 + (logFrom f l (s + 1) n).length by omega]
      exact this

/-! ### laws.FnLogs -/
def pr4 (code : List Int) : Prop := code.length ≤ maxLen ∧ ∀ x ∈ code, (Lit.int .u8 x).wf = true
noncomputable def rs4 (code : List Int) : V := .bool (true)
def Q4 (vs : List V) : Prop := ∃ (code : List Int), ArgsLe vs [encL encY 1 (code)] ∧ pr4 code
noncomputable def in4_8 (code : List Int) : LoopInv :=
  ⟨Nat, fun i => ⟨[(3, .int .i64 (drawF code 0)), (4, .osl (canonT 4) (worldD code 1).1.length), (5, .oref 384 0 0), (6, .int .i64 (i + 1))], [(canonT 4, .arr 7 (worldD code 1).1.length (gL (encMsg 1) (worldD code 1).1) 213), (384, .box [.int .i64 0, .osl (canonB 384 1) (logL (drawF code 0) (worldD code 1).1).length]), (canonB 384 1, .arr 1 (logL (drawF code 0) (worldD code 1).1).length (gL encI (logL (drawF code 0) (worldD code 1).1)) tagS)]⟩,
    fun i => i ≤ 31, fun i => 31 - i⟩
noncomputable def iv4 (code : List Int) : Nat → Option LoopInv := fun rg_ => match rg_ with
  | 8 => some (in4_8 code)
  | _ => none
noncomputable def D4 : Nat → Option (Bool × FSpec) := lk [(6, (false, sp6)), (16, (false, sp16)), (17, (false, sp17o)), (18, (false, sp18o)), (19, (false, sp19o)), (14, (false, sp14)), (13, (false, sp13)), (15, (false, sp15))]
theorem da4 : SoundAll Try.prog D4 := soundAll_cons so6 (soundAll_cons so16 (soundAll_cons so17o (soundAll_cons so18o (soundAll_cons so19o (soundAll_cons so14 (soundAll_cons so13 (soundAll_cons so15 (soundAll_nil))))))))
noncomputable def cx4 (code : List Int) : Cx := ⟨tt, D4, Try.f4.ntmps, [0, 2, 3, 4, 5, 6, 7, 8, 10, 21, 38, 78], [(8, ⟨[(3, none), (4, some 7), (5, none), (6, none)], [(384, [(1, 1)])]⟩)], [], iv4 code, [], noM, []⟩
theorem bd4 (code : List Int) (hpre : pr4 code) : bodyP (cx4 code) Try.f4 0 [encL encY 1 (code)] (fun rr => VLe rr (rs4 code)) := by
  have key :
      (((VLe (encL encY 1 code) (encL encY 1 (decL decY (encL encY 1 code)))) ∧
   (pr6 (decL decY (encL encY 1 code)))) ∧
   (((decide (1048576 < List.length (decL decY (encL encY 1 code))) = true) →
   (VLe (V.bool true) (V.bool true))) ∧
   ((decide (1048576 < List.length (decL decY (encL encY 1 code))) = false) →
   (((VLe (encL encY 1 code) (encL encY 1 (decL decY (encL encY 1 code)))) ∧
   (pr16 (decL decY (encL encY 1 code)))) ∧
   (((VLe
   (encL (encMsg 1) 1
   (Prod.snd
   (drawF (decL decY (encL encY 1 code)) (0 : Int),
   Prod.fst (worldD (decL decY (encL encY 1 code)) (1 : Int)))))
   (encL (encMsg 1) 1
   (decL decMsg
   (encL (encMsg 1) 1
   (Prod.snd
   (drawF (decL decY (encL encY 1 code)) (0 : Int),
   Prod.fst (worldD (decL decY (encL encY 1 code)) (1 : Int)))))))) ∧
   (pr17o
   (Prod.fst
   (drawF (decL decY (encL encY 1 code)) (0 : Int),
   Prod.fst (worldD (decL decY (encL encY 1 code)) (1 : Int))))
   (decL decMsg
   (encL (encMsg 1) 1
   (Prod.snd
   (drawF (decL decY (encL encY 1 code)) (0 : Int),
   Prod.fst (worldD (decL decY (encL encY 1 code)) (1 : Int)))))))) ∧
   ((((IntsResult.code
   (ro17o
   (Prod.fst
   (drawF (decL decY (encL encY 1 code)) (0 : Int),
   Prod.fst (worldD (decL decY (encL encY 1 code)) (1 : Int))))
   (decL decMsg
   (encL (encMsg 1) 1
   (Prod.snd
   (drawF (decL decY (encL encY 1 code)) (0 : Int),
   Prod.fst (worldD (decL decY (encL encY 1 code)) (1 : Int))))))) !=
   (0 : Int)) =
   true) →
   (((VLe
   (encL (encMsg 1) 1
   (Prod.snd
   (drawF (decL decY (encL encY 1 code)) (0 : Int),
   Prod.fst (worldD (decL decY (encL encY 1 code)) (1 : Int)))))
   (encL (encMsg 1) 1
   (decL decMsg
   (encL (encMsg 1) 1
   (Prod.snd
   (drawF (decL decY (encL encY 1 code)) (0 : Int),
   Prod.fst (worldD (decL decY (encL encY 1 code)) (1 : Int)))))))) ∧
   (pr18o
   (Prod.fst
   (drawF (decL decY (encL encY 1 code)) (0 : Int),
   Prod.fst (worldD (decL decY (encL encY 1 code)) (1 : Int))))
   (decL decMsg
   (encL (encMsg 1) 1
   (Prod.snd
   (drawF (decL decY (encL encY 1 code)) (0 : Int),
   Prod.fst (worldD (decL decY (encL encY 1 code)) (1 : Int)))))))) ∧
   (VLe
   (V.bool
   (IntsResult.code
   (ro18o
   (Prod.fst
   (drawF (decL decY (encL encY 1 code)) (0 : Int),
   Prod.fst (worldD (decL decY (encL encY 1 code)) (1 : Int))))
   (decL decMsg
   (encL (encMsg 1) 1
   (Prod.snd
   (drawF (decL decY (encL encY 1 code)) (0 : Int),
   Prod.fst (worldD (decL decY (encL encY 1 code)) (1 : Int))))))) ==
   IntsResult.code
   (ro17o
   (Prod.fst
   (drawF (decL decY (encL encY 1 code)) (0 : Int),
   Prod.fst (worldD (decL decY (encL encY 1 code)) (1 : Int))))
   (decL decMsg
   (encL (encMsg 1) 1
   (Prod.snd
   (drawF (decL decY (encL encY 1 code)) (0 : Int),
   Prod.fst (worldD (decL decY (encL encY 1 code)) (1 : Int)))))))))
   (V.bool true)))) ∧
   (((IntsResult.code
   (ro17o
   (Prod.fst
   (drawF (decL decY (encL encY 1 code)) (0 : Int),
   Prod.fst (worldD (decL decY (encL encY 1 code)) (1 : Int))))
   (decL decMsg
   (encL (encMsg 1) 1
   (Prod.snd
   (drawF (decL decY (encL encY 1 code)) (0 : Int),
   Prod.fst (worldD (decL decY (encL encY 1 code)) (1 : Int))))))) !=
   (0 : Int)) =
   false) →
   ((∃ x : Nat, ((SLe
   (AS.mk
   [(3,
   V.int IntKind.i64
   (Prod.fst
   (drawF (decL decY (encL encY 1 code)) (0 : Int),
   Prod.fst (worldD (decL decY (encL encY 1 code)) (1 : Int))))),
   (4,
   V.osl 32000320
   (List.length
   (Prod.snd
   (drawF (decL decY (encL encY 1 code)) (0 : Int),
   Prod.fst (worldD (decL decY (encL encY 1 code)) (1 : Int)))))),
   (5, V.oref 384 0 0), (6, V.int IntKind.i64 (1 : Int))]
   [(32000320,
   Blk.arr 7
   (List.length
   (Prod.snd
   (drawF (decL decY (encL encY 1 code)) (0 : Int),
   Prod.fst (worldD (decL decY (encL encY 1 code)) (1 : Int)))))
   (gL (encMsg 1)
   (Prod.snd
   (drawF (decL decY (encL encY 1 code)) (0 : Int),
   Prod.fst (worldD (decL decY (encL encY 1 code)) (1 : Int)))))
   213),
   (384,
   Blk.box
   [V.int IntKind.i64
   (IntsResult.code
   (ro17o
   (Prod.fst
   (drawF (decL decY (encL encY 1 code)) (0 : Int),
   Prod.fst (worldD (decL decY (encL encY 1 code)) (1 : Int))))
   (decL decMsg
   (encL (encMsg 1) 1
   (Prod.snd
   (drawF (decL decY (encL encY 1 code)) (0 : Int),
   Prod.fst (worldD (decL decY (encL encY 1 code)) (1 : Int)))))))),
   V.osl 65572928
   (List.length
   (IntsResult.list
   (ro17o
   (Prod.fst
   (drawF (decL decY (encL encY 1 code)) (0 : Int),
   Prod.fst (worldD (decL decY (encL encY 1 code)) (1 : Int))))
   (decL decMsg
   (encL (encMsg 1) 1
   (Prod.snd
   (drawF (decL decY (encL encY 1 code)) (0 : Int),
   Prod.fst (worldD (decL decY (encL encY 1 code)) (1 : Int)))))))))]),
   (65572928,
   Blk.arr 1
   (List.length
   (IntsResult.list
   (ro17o
   (Prod.fst
   (drawF (decL decY (encL encY 1 code)) (0 : Int),
   Prod.fst (worldD (decL decY (encL encY 1 code)) (1 : Int))))
   (decL decMsg
   (encL (encMsg 1) 1
   (Prod.snd
   (drawF (decL decY (encL encY 1 code)) (0 : Int),
   Prod.fst (worldD (decL decY (encL encY 1 code)) (1 : Int)))))))))
   (gL encI
   (IntsResult.list
   (ro17o
   (Prod.fst
   (drawF (decL decY (encL encY 1 code)) (0 : Int),
   Prod.fst (worldD (decL decY (encL encY 1 code)) (1 : Int))))
   (decL decMsg
   (encL (encMsg 1) 1
   (Prod.snd
   (drawF (decL decY (encL encY 1 code)) (0 : Int),
   Prod.fst (worldD (decL decY (encL encY 1 code)) (1 : Int)))))))))
   100)])
   (AS.mk
   [(3, V.int IntKind.i64 (drawF code (0 : Int))),
   (4, V.osl 32000320 (List.length (Prod.fst (worldD code (1 : Int))))),
   (5, V.oref 384 0 0), (6, V.int IntKind.i64 ((↑x : Int) + (1 : Int)))]
   [(32000320,
   Blk.arr 7 (List.length (Prod.fst (worldD code (1 : Int))))
   (gL (encMsg 1) (Prod.fst (worldD code (1 : Int)))) 213),
   (384,
   Blk.box
   [V.int IntKind.i64 (0 : Int),
   V.osl 65572928 (List.length (logL (drawF code (0 : Int)) (Prod.fst (worldD code (1 : Int)))))]),
   (65572928,
   Blk.arr 1 (List.length (logL (drawF code (0 : Int)) (Prod.fst (worldD code (1 : Int)))))
   (gL encI (logL (drawF code (0 : Int)) (Prod.fst (worldD code (1 : Int))))) 100)])) ∧
   (x ≤ 31))) ∧
   (∀ x : Nat,
   ((x ≤ 31) →
   ((inK IntKind.i64 ((↑(List.length (logL (drawF code (0 : Int)) (Prod.fst (worldD code (1 : Int))))) : Int) + (1 : Int))) ∧
   ((tq (decide
   ((↑x : Int) + (1 : Int) ≤
   (↑(List.length (logL (drawF code (0 : Int)) (Prod.fst (worldD code (1 : Int))))) : Int) + (1 : Int)))) ∧
   (((true = true) →
   ((decide
   ((↑x : Int) + (1 : Int) ≤
   (↑(List.length (logL (drawF code (0 : Int)) (Prod.fst (worldD code (1 : Int))))) : Int) + (1 : Int)) =
   true) →
   (decide
   ((↑x : Int) + (1 : Int) ≤
   (↑(List.length (logL (drawF code (0 : Int)) (Prod.fst (worldD code (1 : Int))))) : Int) + (1 : Int)) =
   true))) ∧
   (∀ b : Bool,
   ((b =
   bif
   decide
   ((↑x : Int) + (1 : Int) ≤
   (↑(List.length (logL (drawF code (0 : Int)) (Prod.fst (worldD code (1 : Int))))) : Int) + (1 : Int)) then
   decide ((↑x : Int) + (1 : Int) ≤ (30 : Int))
   else false) →
   (((b = true) →
   (((VLe (encL (encMsg 1) 1 (Prod.fst (worldD code (1 : Int))))
   (encL (encMsg 1) 1
   (decL decMsg (encL (encMsg 1) 1 (Prod.fst (worldD code (1 : Int))))))) ∧
   (pr19o (drawF code (0 : Int)) (decL decMsg (encL (encMsg 1) 1 (Prod.fst (worldD code (1 : Int)))))
   ((↑x : Int) + (1 : Int)))) ∧
   ((tq (!IntsResult.code
   (ro19o (drawF code (0 : Int)) (decL decMsg (encL (encMsg 1) 1 (Prod.fst (worldD code (1 : Int)))))
   ((↑x : Int) + (1 : Int))) !=
   (0 : Int))) ∧
   ((tq (!IntsResult.code
   (ro19o (drawF code (0 : Int)) (decL decMsg (encL (encMsg 1) 1 (Prod.fst (worldD code (1 : Int)))))
   ((↑x : Int) + (1 : Int))) !=
   (0 : Int))) ∧
   ((tq (!IntsResult.code
   (ro19o (drawF code (0 : Int)) (decL decMsg (encL (encMsg 1) 1 (Prod.fst (worldD code (1 : Int)))))
   ((↑x : Int) + (1 : Int))) !=
   (0 : Int))) ∧
   ((tq (!IntsResult.code
   (ro19o (drawF code (0 : Int)) (decL decMsg (encL (encMsg 1) 1 (Prod.fst (worldD code (1 : Int)))))
   ((↑x : Int) + (1 : Int))) !=
   (0 : Int))) ∧
   ((tq (!IntsResult.code
   (ro19o (drawF code (0 : Int)) (decL decMsg (encL (encMsg 1) 1 (Prod.fst (worldD code (1 : Int)))))
   ((↑x : Int) + (1 : Int))) !=
   (0 : Int))) ∧
   ((tq (!IntsResult.code
   (ro19o (drawF code (0 : Int)) (decL decMsg (encL (encMsg 1) 1 (Prod.fst (worldD code (1 : Int)))))
   ((↑x : Int) + (1 : Int))) !=
   (0 : Int))) ∧
   ((tq (!IntsResult.code
   (ro19o (drawF code (0 : Int)) (decL decMsg (encL (encMsg 1) 1 (Prod.fst (worldD code (1 : Int)))))
   ((↑x : Int) + (1 : Int))) !=
   (0 : Int))) ∧
   ((tq (!IntsResult.code
   (ro19o (drawF code (0 : Int)) (decL decMsg (encL (encMsg 1) 1 (Prod.fst (worldD code (1 : Int)))))
   ((↑x : Int) + (1 : Int))) !=
   (0 : Int))) ∧
   ((tq (!IntsResult.code
   (ro19o (drawF code (0 : Int)) (decL decMsg (encL (encMsg 1) 1 (Prod.fst (worldD code (1 : Int)))))
   ((↑x : Int) + (1 : Int))) !=
   (0 : Int))) ∧
   (((true = true) →
   (((IntsResult.code
   (ro19o (drawF code (0 : Int)) (decL decMsg (encL (encMsg 1) 1 (Prod.fst (worldD code (1 : Int)))))
   ((↑x : Int) + (1 : Int))) !=
   (0 : Int)) =
   false) →
   ((!IntsResult.code
   (ro19o (drawF code (0 : Int))
   (decL decMsg (encL (encMsg 1) 1 (Prod.fst (worldD code (1 : Int)))))
   ((↑x : Int) + (1 : Int))) !=
   (0 : Int)) =
   true))) ∧
   (∀ b_1 : Bool,
   ((b_1 =
   bif
   IntsResult.code
   (ro19o (drawF code (0 : Int))
   (decL decMsg (encL (encMsg 1) 1 (Prod.fst (worldD code (1 : Int)))))
   ((↑x : Int) + (1 : Int))) !=
   (0 : Int) then
   true
   else
   !((↑(List.length
   (IntsResult.list
   (ro19o (drawF code (0 : Int))
   (decL decMsg (encL (encMsg 1) 1 (Prod.fst (worldD code (1 : Int)))))
   ((↑x : Int) + (1 : Int))))) :
   Int) ==
   (0 : Int)) ==
   decide
   ((↑x : Int) + (1 : Int) >
   (↑(List.length (logL (drawF code (0 : Int)) (Prod.fst (worldD code (1 : Int))))) : Int))) →
   ((tq (!b_1)) ∧
   ((tq (!b_1)) ∧
   ((tq (!b_1)) ∧
   ((tq (!b_1)) ∧
   ((tq (!b_1 &&
   decide
   ((↑(List.length
   (IntsResult.list
   (ro19o (drawF code (0 : Int))
   (decL decMsg (encL (encMsg 1) 1 (Prod.fst (worldD code (1 : Int)))))
   ((↑x : Int) + (1 : Int))))) :
   Int) >
   (0 : Int)))) ∧
   ((tq (!b_1 &&
   decide
   ((↑(List.length
   (IntsResult.list
   (ro19o (drawF code (0 : Int))
   (decL decMsg (encL (encMsg 1) 1 (Prod.fst (worldD code (1 : Int)))))
   ((↑x : Int) + (1 : Int))))) :
   Int) >
   (0 : Int)))) ∧
   ((((!b_1 &&
   decide
   ((↑(List.length
   (IntsResult.list
   (ro19o (drawF code (0 : Int))
   (decL decMsg (encL (encMsg 1) 1 (Prod.fst (worldD code (1 : Int)))))
   ((↑x : Int) + (1 : Int))))) :
   Int) >
   (0 : Int))) =
   true) →
   (((0 : Int) ≤ (0 : Int)) ∧
   ((0 : Int) <
   (↑(List.length
   (IntsResult.list
   (ro19o (drawF code (0 : Int))
   (decL decMsg (encL (encMsg 1) 1 (Prod.fst (worldD code (1 : Int)))))
   ((↑x : Int) + (1 : Int))))) :
   Int)))) ∧
   ((tq (!b_1 &&
   decide
   ((↑(List.length
   (IntsResult.list
   (ro19o (drawF code (0 : Int))
   (decL decMsg (encL (encMsg 1) 1 (Prod.fst (worldD code (1 : Int)))))
   ((↑x : Int) + (1 : Int))))) :
   Int) >
   (0 : Int)))) ∧
   ((((!b_1 &&
   decide
   ((↑(List.length
   (IntsResult.list
   (ro19o (drawF code (0 : Int))
   (decL decMsg (encL (encMsg 1) 1 (Prod.fst (worldD code (1 : Int)))))
   ((↑x : Int) + (1 : Int))))) :
   Int) >
   (0 : Int))) =
   true) →
   (0 <
   List.length
   (IntsResult.list
   (ro19o (drawF code (0 : Int)) (decL decMsg (encL (encMsg 1) 1 (Prod.fst (worldD code (1 : Int)))))
   ((↑x : Int) + (1 : Int)))))) ∧
   ((tq (!b_1 &&
   decide
   ((↑(List.length
   (IntsResult.list
   (ro19o (drawF code (0 : Int))
   (decL decMsg (encL (encMsg 1) 1 (Prod.fst (worldD code (1 : Int)))))
   ((↑x : Int) + (1 : Int))))) :
   Int) >
   (0 : Int)))) ∧
   ((tq (!b_1 &&
   decide
   ((↑(List.length
   (IntsResult.list
   (ro19o (drawF code (0 : Int))
   (decL decMsg (encL (encMsg 1) 1 (Prod.fst (worldD code (1 : Int)))))
   ((↑x : Int) + (1 : Int))))) :
   Int) >
   (0 : Int)))) ∧
   ((((!b_1 &&
   decide
   ((↑(List.length
   (IntsResult.list
   (ro19o (drawF code (0 : Int))
   (decL decMsg (encL (encMsg 1) 1 (Prod.fst (worldD code (1 : Int)))))
   ((↑x : Int) + (1 : Int))))) :
   Int) >
   (0 : Int))) =
   true) →
   (inK IntKind.i64 ((↑x : Int) + (1 : Int) - (1 : Int)))) ∧
   ((tq (!b_1 &&
   decide
   ((↑(List.length
   (IntsResult.list
   (ro19o (drawF code (0 : Int))
   (decL decMsg (encL (encMsg 1) 1 (Prod.fst (worldD code (1 : Int)))))
   ((↑x : Int) + (1 : Int))))) :
   Int) >
   (0 : Int)))) ∧
   ((tq (!b_1 &&
   decide
   ((↑(List.length
   (IntsResult.list
   (ro19o (drawF code (0 : Int))
   (decL decMsg (encL (encMsg 1) 1 (Prod.fst (worldD code (1 : Int)))))
   ((↑x : Int) + (1 : Int))))) :
   Int) >
   (0 : Int)))) ∧
   ((((!b_1 &&
   decide
   ((↑(List.length
   (IntsResult.list
   (ro19o (drawF code (0 : Int))
   (decL decMsg (encL (encMsg 1) 1 (Prod.fst (worldD code (1 : Int)))))
   ((↑x : Int) + (1 : Int))))) :
   Int) >
   (0 : Int))) =
   true) →
   (((0 : Int) ≤ (↑x : Int) + (1 : Int) - (1 : Int)) ∧
   ((↑x : Int) + (1 : Int) - (1 : Int) <
   (↑(List.length (logL (drawF code (0 : Int)) (Prod.fst (worldD code (1 : Int))))) : Int)))) ∧
   ((tq (!b_1 &&
   decide
   ((↑(List.length
   (IntsResult.list
   (ro19o (drawF code (0 : Int))
   (decL decMsg (encL (encMsg 1) 1 (Prod.fst (worldD code (1 : Int)))))
   ((↑x : Int) + (1 : Int))))) :
   Int) >
   (0 : Int)))) ∧
   ((((!b_1 &&
   decide
   ((↑(List.length
   (IntsResult.list
   (ro19o (drawF code (0 : Int))
   (decL decMsg (encL (encMsg 1) 1 (Prod.fst (worldD code (1 : Int)))))
   ((↑x : Int) + (1 : Int))))) :
   Int) >
   (0 : Int))) =
   true) →
   (Int.toNat ((↑x : Int) + (1 : Int) - (1 : Int)) <
   List.length (logL (drawF code (0 : Int)) (Prod.fst (worldD code (1 : Int)))))) ∧
   ((tq (!b_1 &&
   decide
   ((↑(List.length
   (IntsResult.list
   (ro19o (drawF code (0 : Int))
   (decL decMsg (encL (encMsg 1) 1 (Prod.fst (worldD code (1 : Int)))))
   ((↑x : Int) + (1 : Int))))) :
   Int) >
   (0 : Int)))) ∧
   ((tq (!b_1 &&
   decide
   ((↑(List.length
   (IntsResult.list
   (ro19o (drawF code (0 : Int))
   (decL decMsg (encL (encMsg 1) 1 (Prod.fst (worldD code (1 : Int)))))
   ((↑x : Int) + (1 : Int))))) :
   Int) >
   (0 : Int)))) ∧
   ((tq (!b_1)) ∧
   ((((!b_1) = true) →
   (((!b_1) = true) →
   ((decide
   ((↑(List.length
   (IntsResult.list
   (ro19o (drawF code (0 : Int))
   (decL decMsg (encL (encMsg 1) 1 (Prod.fst (worldD code (1 : Int)))))
   ((↑x : Int) + (1 : Int))))) :
   Int) >
   (0 : Int)) =
   true) →
   ((!b_1 &&
   decide
   ((↑(List.length
   (IntsResult.list
   (ro19o (drawF code (0 : Int))
   (decL decMsg (encL (encMsg 1) 1 (Prod.fst (worldD code (1 : Int)))))
   ((↑x : Int) + (1 : Int))))) :
   Int) >
   (0 : Int))) =
   true)))) ∧
   (∀ b_2 : Bool,
   ((b_2 =
   bif
   decide
   ((↑(List.length
   (IntsResult.list
   (ro19o (drawF code (0 : Int))
   (decL decMsg (encL (encMsg 1) 1 (Prod.fst (worldD code (1 : Int)))))
   ((↑x : Int) + (1 : Int))))) :
   Int) >
   (0 : Int)) then
   List.getD
   (IntsResult.list
   (ro19o (drawF code (0 : Int))
   (decL decMsg (encL (encMsg 1) 1 (Prod.fst (worldD code (1 : Int)))))
   ((↑x : Int) + (1 : Int))))
   0 default !=
   List.getD (logL (drawF code (0 : Int)) (Prod.fst (worldD code (1 : Int))))
   (Int.toNat ((↑x : Int) + (1 : Int) - (1 : Int))) default
   else false) →
   (((true = true) →
   ((b_1 = false) →
   ((!b_1) = true))) ∧
   (∀ b_3 : Bool,
   ((b_3 = bif b_1 then true else b_2) →
   (((b_3 = true) →
   (VLe (V.bool false) (V.bool true))) ∧
   ((b_3 = false) →
   ((inK IntKind.i64 ((↑x : Int) + (1 : Int) + (1 : Int))) ∧
   (∃ y : Nat, ((SLe
   (AS.mk
   [(3, V.int IntKind.i64 (drawF code (0 : Int))),
   (4, V.osl 32000320 (List.length (Prod.fst (worldD code (1 : Int))))),
   (5, V.oref 384 0 0),
   (6, V.int IntKind.i64 ((↑x : Int) + (1 : Int) + (1 : Int)))]
   [(32000320,
   Blk.arr 7 (List.length (Prod.fst (worldD code (1 : Int))))
   (gL (encMsg 1) (Prod.fst (worldD code (1 : Int)))) 213),
   (384,
   Blk.box
   [V.int IntKind.i64 (0 : Int),
   V.osl 65572928 (List.length (logL (drawF code (0 : Int)) (Prod.fst (worldD code (1 : Int)))))]),
   (65572928,
   Blk.arr 1 (List.length (logL (drawF code (0 : Int)) (Prod.fst (worldD code (1 : Int)))))
   (gL encI (logL (drawF code (0 : Int)) (Prod.fst (worldD code (1 : Int))))) 100)])
   (AS.mk
   [(3, V.int IntKind.i64 (drawF code (0 : Int))),
   (4, V.osl 32000320 (List.length (Prod.fst (worldD code (1 : Int))))),
   (5, V.oref 384 0 0), (6, V.int IntKind.i64 ((↑y : Int) + (1 : Int)))]
   [(32000320,
   Blk.arr 7 (List.length (Prod.fst (worldD code (1 : Int))))
   (gL (encMsg 1) (Prod.fst (worldD code (1 : Int)))) 213),
   (384,
   Blk.box
   [V.int IntKind.i64 (0 : Int),
   V.osl 65572928 (List.length (logL (drawF code (0 : Int)) (Prod.fst (worldD code (1 : Int)))))]),
   (65572928,
   Blk.arr 1 (List.length (logL (drawF code (0 : Int)) (Prod.fst (worldD code (1 : Int)))))
   (gL encI (logL (drawF code (0 : Int)) (Prod.fst (worldD code (1 : Int))))) 100)])) ∧
   ((y ≤ 31) ∧
   (31 - y < 31 - x))))))))))))))))))))))))))))))))))))))))))))))) ∧
   ((b = false) →
   ((pr14 (drawF code (0 : Int)) (5 : Int)) ∧
   (((VLe (encL (encMsg 1) 1 (Prod.fst (worldD code (1 : Int))))
   (encL (encMsg 1) 1
   (decL decMsg (encL (encMsg 1) 1 (Prod.fst (worldD code (1 : Int))))))) ∧
   (pr18o (drawF code (0 : Int)) (decL decMsg (encL (encMsg 1) 1 (Prod.fst (worldD code (1 : Int))))))) ∧
   (((VLe (encL encI 1 (logL (drawF code (0 : Int)) (Prod.fst (worldD code (1 : Int)))))
   (encL encI 1
   (decL decI (encL encI 1 (logL (drawF code (0 : Int)) (Prod.fst (worldD code (1 : Int)))))))) ∧
   ((VLe
   (encL encI 1
   (IntsResult.list
   (ro18o (drawF code (0 : Int))
   (decL decMsg (encL (encMsg 1) 1 (Prod.fst (worldD code (1 : Int))))))))
   (encL encI 1
   (decL decI
   (encL encI 1
   (IntsResult.list
   (ro18o (drawF code (0 : Int))
   (decL decMsg (encL (encMsg 1) 1 (Prod.fst (worldD code (1 : Int))))))))))) ∧
   (pr13 (decL decI (encL encI 1 (logL (drawF code (0 : Int)) (Prod.fst (worldD code (1 : Int))))))
   (decL decI
   (encL encI 1
   (IntsResult.list
   (ro18o (drawF code (0 : Int))
   (decL decMsg (encL (encMsg 1) 1 (Prod.fst (worldD code (1 : Int)))))))))))) ∧
   ((tq (decide
   (decL decI (encL encI 1 (logL (drawF code (0 : Int)) (Prod.fst (worldD code (1 : Int))))) =
   decL decI
   (encL encI 1
   (IntsResult.list
   (ro18o (drawF code (0 : Int))
   (decL decMsg (encL (encMsg 1) 1 (Prod.fst (worldD code (1 : Int))))))))))) ∧
   ((tq (decide
   (decL decI (encL encI 1 (logL (drawF code (0 : Int)) (Prod.fst (worldD code (1 : Int))))) =
   decL decI
   (encL encI 1
   (IntsResult.list
   (ro18o (drawF code (0 : Int))
   (decL decMsg (encL (encMsg 1) 1 (Prod.fst (worldD code (1 : Int))))))))))) ∧
   (((decide
   (decL decI (encL encI 1 (logL (drawF code (0 : Int)) (Prod.fst (worldD code (1 : Int))))) =
   decL decI
   (encL encI 1
   (IntsResult.list
   (ro18o (drawF code (0 : Int))
   (decL decMsg (encL (encMsg 1) 1 (Prod.fst (worldD code (1 : Int))))))))) =
   true) →
   (pr15 (drawF code (0 : Int)) (5 : Int))) ∧
   ((tq (decide
   (decL decI (encL encI 1 (logL (drawF code (0 : Int)) (Prod.fst (worldD code (1 : Int))))) =
   decL decI
   (encL encI 1
   (IntsResult.list
   (ro18o (drawF code (0 : Int))
   (decL decMsg (encL (encMsg 1) 1 (Prod.fst (worldD code (1 : Int))))))))))) ∧
   ((tq (decide
   (decL decI (encL encI 1 (logL (drawF code (0 : Int)) (Prod.fst (worldD code (1 : Int))))) =
   decL decI
   (encL encI 1
   (IntsResult.list
   (ro18o (drawF code (0 : Int))
   (decL decMsg (encL (encMsg 1) 1 (Prod.fst (worldD code (1 : Int))))))))))) ∧
   ((tq (decide
   (decL decI (encL encI 1 (logL (drawF code (0 : Int)) (Prod.fst (worldD code (1 : Int))))) =
   decL decI
   (encL encI 1
   (IntsResult.list
   (ro18o (drawF code (0 : Int))
   (decL decMsg (encL (encMsg 1) 1 (Prod.fst (worldD code (1 : Int))))))))))) ∧
   (((true = true) →
   ((decide
   (decL decI (encL encI 1 (logL (drawF code (0 : Int)) (Prod.fst (worldD code (1 : Int))))) =
   decL decI
   (encL encI 1
   (IntsResult.list
   (ro18o (drawF code (0 : Int))
   (decL decMsg (encL (encMsg 1) 1 (Prod.fst (worldD code (1 : Int))))))))) =
   true) →
   (decide
   (decL decI (encL encI 1 (logL (drawF code (0 : Int)) (Prod.fst (worldD code (1 : Int))))) =
   decL decI
   (encL encI 1
   (IntsResult.list
   (ro18o (drawF code (0 : Int))
   (decL decMsg (encL (encMsg 1) 1 (Prod.fst (worldD code (1 : Int))))))))) =
   true))) ∧
   (∀ b_1 : Bool,
   ((b_1 =
   bif
   decide
   (decL decI (encL encI 1 (logL (drawF code (0 : Int)) (Prod.fst (worldD code (1 : Int))))) =
   decL decI
   (encL encI 1
   (IntsResult.list
   (ro18o (drawF code (0 : Int))
   (decL decMsg (encL (encMsg 1) 1 (Prod.fst (worldD code (1 : Int))))))))) then
   IntResult.value (primaryOfF (drawF code (0 : Int)) (5 : Int)) ==
   IntResult.value (primaryOfF (drawF code (0 : Int)) (5 : Int))
   else false) →
   ((tq (b_1)) ∧
   ((tq (b_1)) ∧
   (((true = true) →
   ((b_1 = true) →
   (b_1 = true))) ∧
   (∀ b_2 : Bool,
   ((b_2 = bif b_1 then decide (IntResult.value (primaryOfF (drawF code (0 : Int)) (5 : Int)) ≥ (1 : Int)) else false) →
   (VLe (V.bool b_2) (V.bool true)))))))))))))))))))))))))))))))))))) := by
    obtain ⟨hlen, hby⟩ := hpre
    simp only [decL_bytes, decL_Msg, decL_ints, ro16, ro17o, ro18o, ro19o]
    refine ⟨⟨VLe.refl _, trivial⟩, fun h => VLe.refl _, fun h => ?_⟩
    have h0 := okX_code (Nat.le_of_not_lt (of_decide_eq_false h)) hby
    have w := worldD_bd (h0.to (b := 1) (by omega) (by omega)) (by omega)
    have hb : bdL (worldD code 1).1 := bdL_short w.1 (by omega) (by omega)
    generalize (worldD code 1).1 = l at *
    generalize drawF code 0 = f at *
    refine ⟨⟨VLe.refl _, h0⟩, ⟨VLe.refl _, hb⟩, fun h => ⟨⟨VLe.refl _, hb⟩, vle_bool (by simp)⟩, fun h => ?_⟩
    have hc : (logOfF f l).code = 0 := by simpa using h
    have hz : ledgerFault f l = 0 := by
      unfold logOfF at hc
      split at hc
      · exact hc
      · rename_i g
        exact Classical.byContradiction g
    have e : logOfF f l = ⟨0, logL f l⟩ := if_neg (not_not_intro hz)
    have hr := right_of hz
    have h30 : (logL f l).length ≤ 30 := logFrom_len _ _ _ _
    have hpf : primaryOfF f 5 = ⟨0, primaryF f 5⟩ := if_pos ⟨hr.okf, by decide⟩
    have hp1 : 1 ≤ primaryF f 5 := by
      have hf' : 1 ≤ f ∧ f ≤ 2 := by have := hr.okf; unfold okF at this; omega
      have h1 : 0 ≤ (5 : Int).tmod (3 * f + 1) := Int.tmod_nonneg _ (by decide)
      unfold primaryF
      omega
    simp only [e]
    refine ⟨⟨0, sle_of ⟨rfl, VLe.refl _, rfl, VLe.refl _, rfl, VLe.refl _, rfl, VLe.refl _, trivial⟩ ⟨rfl, BLe.refl _, rfl, BLe.refl _, rfl, BLe.refl _, trivial⟩, by omega⟩, fun i hi => ?_⟩
    repeat (first | (refine And.intro (fun h _ => h) ?_) | (refine And.intro (fun _ h => h) ?_) | (refine And.intro ?aa ?_; case aa => (exact trivial)) | (refine And.intro ?aa ?_; case aa => (intros; simp_all [pr6, pr16, pr17o, pr18o, pr19o, pr14, pr13, pr15]; done)) | (refine And.intro ?aa ?_; case aa => (intros; exact inK64 (by omega))) | (refine And.intro ?aa ?_; case aa => (intros; simp only [decide_eq_true_eq] at *; omega)) | (intro q hq))
    have e0 : q = decide (i ≤ (logL f l).length ∧ i < 30) := by
      rw [hq, Bool.eq_iff_iff]
      simp
      omega
    clear hq
    rw [e0]
    refine ⟨fun h => ?_, fun h => ?_⟩
    · obtain ⟨h1, h2⟩ := of_decide_eq_true h
      have ea : decidedAtF f l ((i : Int) + 1) = ⟨0, decidedL f l ((i : Int) + 1)⟩ := by
        unfold decidedAtF
        rw [if_neg (not_not_intro hz), if_neg (not_not_intro (show inR ((i : Int) + 1) 1 30 from ⟨by omega, by omega⟩))]
      simp only [ea]
      refine ⟨⟨VLe.refl _, hb⟩, ?_⟩
      repeat (refine And.intro (tqB _) ?_)
      refine ⟨fun _ _ => rfl, fun q1 hq1 => ?_⟩
      have hd : (i < (logL f l).length ∧ ∃ r, decidedL f l ((i : Int) + 1) = (logL f l).getD i default :: r) ∨ (i = (logL f l).length ∧ decidedL f l ((i : Int) + 1) = []) := by
        have ei : ((1 + i : Nat) : Int) = (i : Int) + 1 := by omega
        rcases Nat.lt_or_ge i (logL f l).length with g | g
        · obtain ⟨r, h3⟩ := logFrom_at f l 30 1 i g
          rw [ei] at h3
          exact .inl ⟨g, r, h3⟩
        · have g2 : i = (logL f l).length := by omega
          have h3 := logFrom_end f l 30 1 (by show (logL f l).length < 30; omega)
          refine .inr ⟨g2, ?_⟩
          rw [← ei, g2]
          exact h3
      have eq1 : (i : Int) + 1 - 1 = i := by omega
      have e1 : q1 = false := by
        rw [hq1]
        rcases hd with ⟨g, r, hd⟩ | ⟨g, hd⟩
        · rw [hd]
          have : ¬ (i : Int) + 1 > (logL f l).length := by omega
          simp [this]
          omega
        · rw [hd]
          have : (i : Int) + 1 > (logL f l).length := by omega
          simp [this]
          try omega
      clear hq1
      subst e1
      simp only [Bool.not_false, Bool.true_and, eq1, Int.toNat_natCast]
      have hin : decide (((decidedL f l ((i : Int) + 1)).length : Int) > 0) = true → i < (logL f l).length := fun h => by
        rcases hd with ⟨g, r, hd⟩ | ⟨g, hd⟩
        · exact g
        · rw [hd] at h
          simp at h
      repeat (first | (refine And.intro (fun h _ => h) ?_) | (refine And.intro (fun _ h => h) ?_) | (refine And.intro ?aa ?_; case aa => (exact tqB _)) | (refine And.intro ?aa ?_; case aa => (exact fun h => ⟨by omega, of_decide_eq_true h⟩)) | (refine And.intro ?aa ?_; case aa => (exact fun h => by have := of_decide_eq_true h; omega)) | (refine And.intro ?aa ?_; case aa => (exact fun h => ⟨by omega, by have := hin h; omega⟩)) | (refine And.intro ?aa ?_; case aa => (exact fun h => hin h)) | (refine And.intro ?aa ?_; case aa => (exact fun h => inK64 (by omega))) | (refine And.intro ?aa ?_; case aa => (exact fun _ _ h => h)) | (refine And.intro ?aa ?_; case aa => (intros; simp_all [pr6, pr16, pr17o, pr18o, pr19o, pr14, pr13, pr15]; done)) | (refine And.intro ?aa ?_; case aa => (intros; exact inK64 (by omega))) | (refine And.intro ?aa ?_; case aa => (intros; simp only [decide_eq_true_eq] at *; omega)) | (intro q hq))
      have e2 : q = false := by
        subst_vars
        rcases hd with ⟨g, r, hd⟩ | ⟨g, hd⟩ <;> simp [hd]
      rw [e2]
      refine ⟨fun h => (by cases h), fun _ => ⟨inK64 (by omega), i + 1, sle_of ⟨rfl, VLe.refl _, rfl, VLe.refl _, rfl, VLe.refl _, rfl, vle_int (by omega), trivial⟩ ⟨rfl, BLe.refl _, rfl, BLe.refl _, rfl, BLe.refl _, trivial⟩, by omega, by omega⟩⟩
    · rw [hpf]
      refine ⟨trivial, ⟨VLe.refl _, hb⟩, ⟨VLe.refl _, VLe.refl _, by show (logL f l).length ≤ maxLen; unfold maxLen; omega⟩, ?_⟩
      repeat (first | (refine And.intro (fun h _ => h) ?_) | (refine And.intro (fun _ h => h) ?_) | (refine And.intro ?aa ?_; case aa => (exact tqB _)) | (refine And.intro ?aa ?_; case aa => (exact fun _ => trivial)) | (refine And.intro ?aa ?_; case aa => (intros; simp_all [pr6, pr16, pr17o, pr18o, pr19o, pr14, pr13, pr15]; done)) | (refine And.intro ?aa ?_; case aa => (intros; exact inK64 (by omega))) | (refine And.intro ?aa ?_; case aa => (intros; simp only [decide_eq_true_eq] at *; omega)) | (intro q hq))
      subst_vars
      exact vle_bool (by simp; exact hp1)
  exact Eq.mp (by kernel_rfl) key
theorem so4 : Sound Try.prog 4 (lawD Q4) := by
  refine sound_of_body hmix (pol := 0) Try.func4 rfl (by kernel_rfl) fun args bin ob r bout hDe hob => ?_
  unfold lawD at hDe
  split at hDe
  · cases hDe
    obtain ⟨code, hle, hpre⟩ := hob
    have hlen : args.length = 1 := hle.1.symm
    exact ⟨rfl, rfl, by rw [hlen]; exact Nat.le_of_ble_eq_true (by kernel_rfl), cx4 code, Eq.mp (by kernel_rfl) htt, Eq.mp (by kernel_rfl) da4, Eq.mp (by kernel_rfl) (noM_sound (P := Try.prog)), by kernel_rfl, _, hle, Eq.mp (by kernel_rfl) (bd4 code hpre)⟩
  · cases hDe

end Go.Av
