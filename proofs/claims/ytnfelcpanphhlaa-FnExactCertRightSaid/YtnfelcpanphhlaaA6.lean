/- One operation: whatever its kind, the machine does what the abstract effect says. -/
import Derived.Test.YtnfelcpanphhlaaA5c
namespace Go.Av

section
variable {P : Program} {cx : Cx} (hT : TabOk P cx.tt) (hD : SoundAll P cx.D)

theorem does_pure {g : G} {s : AS} {a : Act} {w : World} {ι : Iota} {Fr : Nat → Nat → Prop} {o : Oper} {e : Ef} (h : Rel g s a w ι Fr) (hd : dstOk g.nt o = true) (he : e.upd = [])
    (hr : ∃ x, (execOp a.eval o).run P w = .ok (.value x) w ∧ TRep w Fr ι e.v x) : Does P g (s.app o.dst e) a w o := by
  obtain ⟨x, hx, hv⟩ := hr
  have : e = ⟨e.v, [], e.rd, e.ob⟩ := by rw [← he]
  rw [this]
  exact does_value h hd hx hv

theorem run_index_str {tt : TT} (hT : TabOk P tt) {t : Nat} (ht : isStrT tt t = true) {w : World} {s : ByteArray} {k : IntKind} {n : Int} (h0 : 0 ≤ n) (h1 : n < (s.size : Int)) :
    (Instr.index t (.string s) (.int k n)).run P w = .ok (.int .u8 (byteAt s n)) w := by
  have hu := run_strT hT ht w
  have hlt : n.toNat < s.size := by omega
  have hlt' : n.toNat < s.data.size := hlt
  have hg : s[n.toNat]? = some s.data[n.toNat] := by
    show (if h : n.toNat < s.size then some s[n.toNat] else none) = _
    rw [dif_pos hlt]; rfl
  unfold Instr.index asIntOf
  simp only [Sem.run_bind, Sem.run_pure, Result.andThen_ok, hu, h0, if_true, hg, byteAt]
  have e2 : s.data.getD n.toNat 0 = s.data[n.toNat] := by
    unfold Array.getD; rw [dif_pos hlt']; rfl
  rw [e2]

include hT hD in
theorem core_sim {g : G} {s : AS} {a : Act} {w : World} {ι : Iota} {Fr : Nat → Nat → Prop} (h : Rel g s a w ι Fr) {o : Oper} {d : Nat} (hx : ∀ x ∈ opnds o.op, TRep w Fr ι (strip (aval s x)) (a.eval x))
    (hd : dstOk g.nt o = true) (hfresh : ∀ id, id / 64 = d + 1 → FreshId s id) {e : Ef} (he : coreOp cx s.S d (fun x => strip (aval s x)) o.op = some e) (ho : ∀ p ∈ e.ob, p) : Does P g (s.app o.dst e) a w o := by
  have hf0 : FreshId s (site0 d) := hfresh _ (by unfold site0; omega)
  cases hop : o.op with
  | move x =>
    rw [hop] at hx he
    simp only [coreOp, ok, Option.some.injEq] at he
    subst he
    exact does_pure h hd rfl ⟨_, run_move' x (.inl hop), hx x (by simp [opnds])⟩
  | assign x =>
    rw [hop] at hx he
    simp only [coreOp, ok, Option.some.injEq] at he
    subst he
    exact does_pure h hd rfl ⟨_, run_move' x (.inr hop), hx x (by simp [opnds])⟩
  | alloc el =>
    rw [hop] at he
    simp only [coreOp] at he
    split at he
    · rename_i ti hl
      simp only [box1, Option.some.injEq] at he
      subst he
      exact does_alloc hT h hop hl hf0 hd
    · simp at he
  | box el x =>
    rw [hop] at hx he
    simp only [coreOp] at he
    split at he
    · rename_i hs
      simp only [box1, Option.some.injEq] at he
      subst he
      exact does_box h hop (hx x (by simp [opnds])) hs hf0 hd
    · simp at he
  | build t ps =>
    rw [hop] at hx he
    exact does_build hT h hop (fun p hp => hx p.2 (by simp only [opnds]; exact List.mem_map.2 ⟨p, hp, rfl⟩)) hd he
  | buildSlice t len ps =>
    rw [hop] at hx he
    exact does_buildSlice hT h hop (fun p hp => hx p.2 (by simp only [opnds]; exact List.mem_map.2 ⟨p, hp, rfl⟩)) hd hf0 he
  | load t x =>
    rw [hop] at hx he
    simp only [coreOp] at he
    split at he
    · rename_i ti hl
      obtain ⟨h1, y, hy, hv⟩ := load_sim (P := P) hT h hl he ho (hx x (by simp [opnds]))
      refine does_pure h hd h1 ⟨y, ?_, hv⟩
      unfold execOp; rw [hop]; exact run_v hy
    · simp at he
  | store t p x =>
    rw [hop] at hx he
    simp only [coreOp] at he
    split at he
    · rename_i ti hl
      exact does_store hT h hop hl (hx p (by simp [opnds])) (hx x (by simp [opnds])) hd he ho
    · simp at he
  | nilCheck x =>
    rw [hop] at hx he
    have hxr := hx x (by simp [opnds])
    simp only [coreOp] at he
    split at he
    · rename_i cs off t hv
      simp only [ok, Option.some.injEq] at he
      subst he
      rw [hv] at hxr
      refine does_pure h hd rfl ⟨a.eval x, ?_, hxr⟩
      have : ∃ ad, a.eval x = .pointer (some ad) := by
        generalize a.eval x = vx at hxr
        cases hxr with
        | atom _ hp => cases hp; exact ⟨_, rfl⟩
      obtain ⟨ad, had⟩ := this
      unfold execOp; rw [hop]; simp [had]
    · rename_i id i off hv
      simp only [ok, Option.some.injEq] at he
      subst he
      rw [hv] at hxr
      refine does_pure h hd rfl ⟨a.eval x, ?_, hxr⟩
      have : ∃ ad, a.eval x = .pointer (some ad) := by
        generalize a.eval x = vx at hxr
        cases hxr with
        | atom hv _ => simp [isP] at hv
        | oref => exact ⟨_, rfl⟩
      obtain ⟨ad, had⟩ := this
      unfold execOp; rw [hop]; simp [had]
    · simp at he
  | binOp op t x y yt =>
    rw [hop] at hx he
    obtain ⟨h1, z, hz, hv⟩ := binV_run (P := P) hT (ox := x) (oy := y) he ho (hx x (by simp [opnds])) (hx y (by simp [opnds]))
    refine does_pure h hd h1 ⟨z, ?_, hv⟩
    unfold execOp; rw [hop]; exact run_v hz
  | unOp op t x =>
    rw [hop] at hx he
    have hxr := hx x (by simp [opnds])
    simp only [coreOp] at he
    split at he
    · rename_i b hv
      simp only [ok, Option.some.injEq] at he
      subst he
      rw [hv] at hxr
      have := inv_bool hxr
      refine does_pure h hd rfl ⟨.bool (!b), ?_, .atom rfl (.bool _)⟩
      unfold execOp; rw [hop]; refine run_v ?_; rw [this]; rfl
    · rename_i k n hv
      simp only [okO, Option.some.injEq] at he
      subst he
      rw [hv] at hxr
      have := inv_int hxr
      have hk : k.wrap (0 - n) = 0 - n := ho (inK k (0 - n)) (List.mem_singleton.2 rfl)
      refine does_pure h hd rfl ⟨.int k (0 - n), ?_, .atom rfl (.int _ _)⟩
      unfold execOp; rw [hop]; refine run_v ?_; rw [this]; simp only [Op.unary, Op.intArith, hk]; rfl
    · simp at he
  | convert src dst x =>
    rw [hop] at hx he
    obtain ⟨h1, z, hz, hv⟩ := convV_run (P := P) hT he ho (hx x (by simp [opnds]))
    refine does_pure h hd h1 ⟨z, ?_, hv⟩
    unfold execOp; rw [hop]; exact run_v hz
  | makeFunc fn first caps =>
    rw [hop] at hx he
    cases fn with
    | func f =>
      simp only [coreOp] at he
      split at he
      · rename_i hfirst
        simp only [ok, Option.some.injEq] at he
        subst he
        refine does_pure h hd rfl ⟨.func (.func f) (first.map a.eval) (caps.map a.eval), ?_, ?_⟩
        · unfold execOp; rw [hop]; exact run_v rfl
        · have : first = #[] := by rw [← Array.toList_inj]; simpa using hfirst
          subst this
          simp only [List.map_toArray, List.map_nil]
          refine .fn (caps.map a.eval) (by simp) fun j hj => ?_
          have hj' : j < caps.size := by simpa using hj
          have hm : caps[j] ∈ caps.toList := by simp
          have e1 : (caps.toList.map fun x => strip (aval s x)).getD j .undef = strip (aval s caps[j]) := by simp [List.getD, hj']
          have e2 : (caps.map a.eval).getD j Go.undef = a.eval caps[j] := by simp [hj']
          rw [e1, e2]
          exact hx _ (by simp only [opnds]; exact List.mem_append.2 (.inr hm))
      · simp at he
    | _ => simp [coreOp] at he
  | makeSlice t l c =>
    rw [hop] at hx he
    exact does_make hT h hop (hx l (by simp [opnds])) (hx c (by simp [opnds])) hd hf0 he ho
  | slice t x lo hi mx =>
    rw [hop] at hx he
    obtain ⟨h1, z, hz, hv⟩ := sliceV_run (P := P) hT h he ho (hx x (by simp [opnds])) (brep (ev := a.eval) fun o ho => hx o (by subst ho; simp [opnds, opndsO])) (brep (ev := a.eval) fun o ho => hx o (by subst ho; simp [opnds, opndsO]))
      (brep (ev := a.eval) fun o ho => hx o (by subst ho; simp [opnds, opndsO])) (by cases mx <;> simp)
    refine does_pure h hd h1 ⟨z, ?_, hv⟩
    unfold execOp; rw [hop]; exact run_v hz
  | fieldAddr st x f =>
    rw [hop] at hx he
    obtain ⟨h1, z, hz, hv⟩ := fieldAddr_sim (P := P) hT he (hx x (by simp [opnds]))
    refine does_pure h hd h1 ⟨z, ?_, hv⟩
    unfold execOp; rw [hop]; exact run_v hz
  | field st x f =>
    rw [hop] at hx he
    obtain ⟨h1, z, hz, hv⟩ := field_sim (P := P) hT he (hx x (by simp [opnds]))
    refine does_pure h hd h1 ⟨z, ?_, hv⟩
    unfold execOp; rw [hop]; exact run_v hz
  | indexAddr t x i =>
    rw [hop] at hx he
    obtain ⟨h1, z, hz, hv⟩ := indexAddr_sim (P := P) hT h he ho (hx x (by simp [opnds])) (hx i (by simp [opnds]))
    refine does_pure h hd h1 ⟨z, ?_, hv⟩
    unfold execOp; rw [hop]; exact run_v hz
  | index t x i =>
    rw [hop] at hx he
    have h1 := hx x (by simp [opnds])
    have h2 := hx i (by simp [opnds])
    simp only [coreOp] at he
    split at he
    · rename_i sv k n hv1 hv2 hst
      simp only [okO, Option.some.injEq] at he
      subst he
      rw [hv1] at h1
      rw [hv2] at h2
      have e1 := inv_str h1
      have e2 := inv_int h2
      have hob := ho _ (List.mem_singleton.2 rfl)
      refine does_pure h hd rfl ⟨_, ?_, .atom rfl (.int _ _)⟩
      unfold execOp; rw [hop]; refine run_v ?_; rw [e1, e2]; exact run_index_str hT hst hob.1 hob.2
    · simp at he
  | extract x i =>
    rw [hop] at hx he
    have h1 := hx x (by simp [opnds])
    simp only [coreOp] at he
    split at he
    · rename_i vs hv
      split at he
      · rename_i v hvi
        simp only [ok, Option.some.injEq] at he
        subst he
        rw [hv] at h1
        generalize hvx : a.eval x = vx at h1
        cases h1 with
        | atom hv _ => simp [isP] at hv
        | tup arr hs hr =>
          have hi : i < vs.length := (List.getElem?_eq_some_iff.1 hvi).1
          have e1 : vs.getD i .undef = v := by simp [List.getD, hvi]
          refine does_pure h hd rfl ⟨arr.getD i Go.undef, ?_, by have := hr i hi; rw [e1] at this; exact this⟩
          unfold execOp; rw [hop]; refine run_v ?_; rw [hvx]
          have hi' : i < arr.size := by omega
          simp [Instr.extract, hi']
      · simp at he
    · simp at he
  | call c =>
    rw [hop] at hx he
    simp only [coreOp] at he
    split at he
    · -- len
      rename_i hcal
      split at he
      · rename_i x t rest hargs hty
        obtain ⟨h1, z, hz, hv⟩ := lenV_run (P := P) hT (rt := o.type) rest he (hx x (by simp only [opnds]; exact List.mem_append.2 (.inr (by rw [hargs]; simp))))
        refine does_pure h hd h1 ⟨z, ?_, hv⟩
        have ha : c.args = #[x] := by rw [← Array.toList_inj]; simpa using hargs
        have ht : c.argTypes = (t :: rest).toArray := by rw [← hty]
        unfold execOp; rw [hop]
        simp only [resolve, hcal, ha, ht, invoke, builtin, Sem.run_bind, Sem.run_pure, Result.andThen_ok, List.map_toArray, List.map_cons, List.map_nil, hz]
      · simp at he
    · -- append
      rename_i hcal
      split at he
      · rename_i x y t u rest hargs hty
        split at he
        · rename_i tiu htiu
          have ha : c.args = #[x, y] := by rw [← Array.toList_inj]; simpa using hargs
          exact does_append hT h hop hcal ha hty ⟨_, htiu⟩ (hx x (by simp only [opnds]; exact List.mem_append.2 (.inr (by rw [hargs]; simp)))) (hx y (by simp only [opnds]; exact List.mem_append.2 (.inr (by rw [hargs]; simp)))) hd hf0 he ho
        · simp at he
      · simp at he
    · -- max
      rename_i hcal
      split at he
      · rename_i x r hargs
        unfold okV at he
        split at he
        · rename_i v hv
          simp only [ok, Option.some.injEq] at he
          subst he
          have hall : ∀ y ∈ x :: r, TRep w Fr ι (strip (aval s y)) (a.eval y) := fun y hy => hx y (by simp only [opnds]; exact List.mem_append.2 (.inr (by rw [hargs]; exact hy)))
          obtain ⟨u, hu, hur⟩ := fold_run (P := P) (fun x y z vx vy h1 h2 h3 => maxV_run (P := P) h1 h2 h3) (r.map fun y => strip (aval s y)) (r.map a.eval) _ v _ hv (hall x (List.mem_cons_self ..)) (by simp) (fun j hj => by
            have hj' : j < r.length := by simpa using hj
            have e1 : (r.map fun y => strip (aval s y)).getD j .undef = strip (aval s r[j]) := by simp [List.getD, hj']
            have e2 : (r.map a.eval).getD j Go.undef = a.eval r[j] := by simp [List.getD, hj']
            rw [e1, e2]; exact hall _ (List.mem_cons_of_mem _ (List.getElem_mem hj')))
          refine does_pure h hd rfl ⟨u, ?_, hur⟩
          have ha : c.args = (x :: r).toArray := by rw [← Array.toList_inj]; simpa using hargs
          unfold execOp; rw [hop]
          simp only [resolve, hcal, ha, invoke, builtin, Sem.run_bind, Sem.run_pure, Result.andThen_ok, Builtin.max_, List.map_toArray, List.map_cons, hu]
        · simp at he
      · simp at he
    · -- min
      rename_i hcal
      split at he
      · rename_i x r hargs
        unfold okV at he
        split at he
        · rename_i v hv
          simp only [ok, Option.some.injEq] at he
          subst he
          have hall : ∀ y ∈ x :: r, TRep w Fr ι (strip (aval s y)) (a.eval y) := fun y hy => hx y (by simp only [opnds]; exact List.mem_append.2 (.inr (by rw [hargs]; exact hy)))
          obtain ⟨u, hu, hur⟩ := fold_run (P := P) (fun x y z vx vy h1 h2 h3 => minV_run (P := P) h1 h2 h3) (r.map fun y => strip (aval s y)) (r.map a.eval) _ v _ hv (hall x (List.mem_cons_self ..)) (by simp) (fun j hj => by
            have hj' : j < r.length := by simpa using hj
            have e1 : (r.map fun y => strip (aval s y)).getD j .undef = strip (aval s r[j]) := by simp [List.getD, hj']
            have e2 : (r.map a.eval).getD j Go.undef = a.eval r[j] := by simp [List.getD, hj']
            rw [e1, e2]; exact hall _ (List.mem_cons_of_mem _ (List.getElem_mem hj')))
          refine does_pure h hd rfl ⟨u, ?_, hur⟩
          have ha : c.args = (x :: r).toArray := by rw [← Array.toList_inj]; simpa using hargs
          unfold execOp; rw [hop]
          simp only [resolve, hcal, ha, invoke, builtin, Sem.run_bind, Sem.run_pure, Result.andThen_ok, Builtin.min_, List.map_toArray, List.map_cons, hu]
        · simp at he
      · simp at he
    · -- a Go function
      rename_i f hcal
      split at he
      · rename_i n caps hv
        have hmf : f ∈ opnds (.call c) := by simp only [opnds, hcal, calleeO]; exact List.mem_append.2 (.inl (by simp))
        exact does_call hD h hop hcal hv (hx f hmf) (fun x hxm => hx x (by simp only [opnds]; exact List.mem_append.2 (.inr hxm))) hd hfresh he ho
      · simp at he
    · simp at he
  | _ => rw [hop] at he; simp [coreOp] at he

end
end Go.Av
