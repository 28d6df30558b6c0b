/- Append: the machine's and the abstract one. -/
import Derived.Test.YtnfelcpanphhlaaA4f
namespace Go.Av
set_option linter.unusedVariables false
set_option linter.unusedSimpArgs false

theorem FreshId.del {s : AS} {id : Nat} (h : FreshId s id) (k : Nat) : FreshId { s with S := Go.Av.del s.S k } id where
  no := by
    show lk (Go.Av.del s.S k) id = none
    rw [lk_del, h.no]; simp
  T := h.T
  S := fun j blk hj => by
    have hj' : lk (Go.Av.del s.S k) j = some blk := hj
    rw [lk_del] at hj'
    by_cases e : j = k
    · simp [e] at hj'
    · simp only [e, if_false] at hj'; exact h.S j blk hj'

theorem appg_lt {n i : Nat} {g h : Nat → V} (hi : i < n) : appg n g h i = g i := by simp [appg, hi]
theorem appg_ge {n i : Nat} {g h : Nat → V} (hi : n ≤ i) : appg n g h i = h (i - n) := by
  have : ¬ i < n := by omega
  simp [appg, this]

section
variable {P : Program} {tt : TT} (hT : TabOk P tt)

theorem news_one {w : World} {A : Nat → Prop} {m size : Nat} {f : Nat → V} {news : Array Value} (hz : sizedL size m f) (hs : news.size = m * size)
    (hr : ∀ i j, i < m → j < size → PRep w A ((f i).cells.getD j .undef) (news.getD (i * size + j) Go.undef)) : ∀ v ∈ news.toList, one v = true := by
  intro v hv
  obtain ⟨k, hk, rfl⟩ := List.mem_iff_getElem.1 hv
  have hk' : k < m * size := by rw [← hs]; simpa using hk
  have hpos : 0 < size := by
    rcases Nat.eq_zero_or_pos size with h0 | h0
    · subst h0; simp at hk'
    · exact h0
  have h1 : k / size < m := Nat.div_lt_of_lt_mul (by rw [Nat.mul_comm]; exact hk')
  have h2 : k % size < size := Nat.mod_lt _ hpos
  have h3 : k / size * size + k % size = k := by rw [Nat.mul_comm]; exact Nat.div_add_mod k size
  obtain ⟨h4, h5⟩ := hz _ h1
  have := (hr _ _ h1 h2).one (cell_solid h5 (by omega))
  rw [h3] at this
  simpa [show k < news.size by simpa using hk] using this

/-- Cells of the old elements and of the new ones, one row. -/
theorem row_join {w : World} {A : Nat → Prop} {n m size : Nat} {f h : Nat → V} {cells : Array Value}
    (hold : ∀ i j, i < n → j < size → PRep w A ((f i).cells.getD j .undef) (cells.getD (i * size + j) Go.undef))
    (hnew : ∀ i j, i < m → j < size → PRep w A ((h i).cells.getD j .undef) (cells.getD ((n + i) * size + j) Go.undef)) :
    ∀ i j, i < n + m → j < size → PRep w A ((appg n f h i).cells.getD j .undef) (cells.getD (i * size + j) Go.undef) := by
  intro i j hi hj
  by_cases h1 : i < n
  · rw [appg_lt h1]; exact hold i j h1 hj
  · rw [appg_ge (by omega)]
    have := hnew (i - n) j (by omega) hj
    rwa [show n + (i - n) = i by omega] at this

/-- A row in new memory. -/
theorem append_new {g : G} {s : AS} {a : Act} {w : World} {ι : Iota} {Fr : Nat → Nat → Prop} (h : Rel g s a w ι Fr) {o : Oper} {site : Nat} (hf : FreshId s site) (hd : dstOk g.nt o = true)
    {el : TypeId} {ti : TI} (hl : lk tt el = some ti) {n m : Nat} {F H : Nat → V} {old news : Array Value} {tj : Nat} {rd : List Nat} {ob : List Prop} {upd0 : List (Nat × Option Blk)} (hupd : ∀ k, lk (applyUpd s.S (upd0 ++ [(site, some (.arr ti.size (n + m) (appg n F H) tj))])) k = lk (put s.S site (.arr ti.size (n + m) (appg n F H) tj)) k)
    (hos : old.size = n * ti.size) (hns : news.size = m * ti.size) (hFl : ∀ i, i < n → (F i).cells.length = ti.size) (hHl : ∀ i, i < m → (H i).cells.length = ti.size)
    (hor : ∀ i j, i < n → j < ti.size → PRep w (Fr tj) ((F i).cells.getD j .undef) (old.getD (i * ti.size + j) Go.undef))
    (hnr : ∀ i j, i < m → j < ti.size → PRep w (Fr tj) ((H i).cells.getD j .undef) (news.getD (i * ti.size + j) Go.undef))
    {z : Value} (hz : z.cells.size = ti.size) {cap : Nat} (hcap : n + m ≤ cap)
    (hrun : (execOp a.eval o).run P w = .ok (.value (.slice (some ⟨w.heap.size, 0, none⟩) (n + m) cap)) (w.drew.alloc (.cells (old ++ news ++ Builtin.zeroCells z.cells (cap - (n + m))) el (0, 0)))) :
    Does P g (s.app o.dst ⟨.osl site (n + m), upd0 ++ [(site, some (.arr ti.size (n + m) (appg n F H) tj))], rd, ob⟩) a w o := by
  have hd0 : Rel g s a w.drew ι Fr := h.grow rfl rfl rfl (Nat.le_refl _) (fun _ _ => rfl)
  have hcs : (old ++ news ++ Builtin.zeroCells z.cells (cap - (n + m))).size = cap * ti.size := by
    simp only [Array.size_append, hos, hns, size_zeroCells, hz, ← Nat.add_mul]
    congr 1; omega
  have hget : ∀ k, k < (n + m) * ti.size → (old ++ news ++ Builtin.zeroCells z.cells (cap - (n + m))).getD k Go.undef = if k < n * ti.size then old.getD k Go.undef else news.getD (k - n * ti.size) Go.undef := by
    intro k hk
    rw [Nat.add_mul] at hk
    by_cases h1 : k < n * ti.size
    · rw [if_pos h1]
      simp [Array.getElem?_append, hos, hns, h1, show k < n * ti.size + m * ti.size by omega]
    · rw [if_neg h1]
      simp [Array.getElem?_append, hos, hns, h1, show k - n * ti.size < m * ti.size by omega]
  have hlt : ∀ i j, i < n + m → j < ti.size → i * ti.size + j < (n + m) * ti.size := by
    intro i j hi hj
    have e1 : i * ti.size + ti.size = (i + 1) * ti.size := by rw [Nat.add_mul, Nat.one_mul]
    have e2 : (i + 1) * ti.size ≤ (n + m) * ti.size := Nat.mul_le_mul_right _ hi
    omega
  have hnew := hd0.newBlk hf (arr := old ++ news ++ Builtin.zeroCells z.cells (cap - (n + m))) (e := el) (sz := ti.size) (m := n + m) (blk := .arr ti.size (n + m) (appg n F H) tj) (fun w' hw hb hsh => by
    refine ⟨rfl, rfl, _, el, hw, by rw [hcs]; exact Nat.mul_le_mul_right _ hcap, fun i hi => ?_, ?_⟩
    · by_cases h1 : i < n
      · rw [appg_lt h1]; exact hFl i h1
      · rw [appg_ge (by omega)]; exact hHl _ (by omega)
    · refine row_join (fun i j hi hj => ?_) (fun i j hi hj => ?_)
      · have h1 : i * ti.size + j < n * ti.size := by
          have e1 : i * ti.size + ti.size = (i + 1) * ti.size := by rw [Nat.add_mul, Nat.one_mul]
          have e2 : (i + 1) * ti.size ≤ n * ti.size := Nat.mul_le_mul_right _ hi
          omega
        rw [hget _ (hlt i j (by omega) hj), if_pos h1]
        exact (hor i j hi hj).mono fun b hb' => ⟨hb', hb b (h.fr _ b hb').1⟩
      · have h1 : ¬ (n + i) * ti.size + j < n * ti.size := by rw [Nat.add_mul]; omega
        rw [hget _ (hlt (n + i) j (by omega) hj), if_neg h1]
        have e1 : (n + i) * ti.size + j - n * ti.size = i * ti.size + j := by rw [Nat.add_mul]; omega
        rw [e1]
        exact (hnr i j hi hj).mono fun b hb' => ⟨hb', hb b (h.fr _ b hb').1⟩)
  have hsz : w.drew.heap.size = w.heap.size := rfl
  rw [hsz] at hnew
  refine does_mem hd hrun (hnew.congr (fun _ => rfl) fun k => ?_) ?_
  · exact hupd k
  · exact .osl (b := w.heap.size) (sz := ti.size) (m := n + m) (e := el) (c := (old ++ news ++ Builtin.zeroCells z.cells (cap - (n + m))).size) (by simp [updI]) (Nat.le_refl _) hcap (shape_alloc w.drew _ _) (by rw [hcs]; exact Nat.le_refl _)

theorem grownCap_ge' (w : World) (need old : Nat) (e : TypeId) : need ≤ grownCap w need old e := by
  unfold grownCap Question.cut
  exact Nat.le_add_right _ _

include hT in
theorem does_append {g : G} {s : AS} {a : Act} {w : World} {ι : Iota} {Fr : Nat → Nat → Prop} (h : Rel g s a w ι Fr) {o : Oper} {c : Call} {x y : Operand} {t u : TypeId} {rest : List TypeId} (hop : o.op = .call c)
    (hcal : c.callee = .builtin .append) (hargs : c.args = #[x, y]) (hty : c.argTypes.toList = t :: u :: rest) (hu2 : ∃ ti, elemTI tt u = some ti)
    (hx : TRep w Fr ι (strip (aval s x)) (a.eval x)) (hy : TRep w Fr ι (strip (aval s y)) (a.eval y)) (hd : dstOk g.nt o = true) {site : Nat} (hf : FreshId s site)
    {e : Ef} (he : appendV tt s.S site t (strip (aval s x)) (strip (aval s y)) = some e) (ho : ∀ p ∈ e.ob, p) : Does P g (s.app o.dst e) a w o := by
  obtain ⟨tiu, htiu⟩ := hu2
  obtain ⟨elu, huu, _⟩ := run_elem (P := P) hT htiu w
  have hexec : ∀ v w', (Builtin.append_ (t :: u :: rest).toArray o.type #[a.eval x, a.eval y]).run P w = .ok v w' → (execOp a.eval o).run P w = .ok (.value v) w' := by
    intro v w' hr
    unfold execOp
    rw [hop]
    have hat : c.argTypes = (t :: u :: rest).toArray := by rw [← hty]
    simp only [resolve, hcal, hargs, invoke, builtin, Sem.run_bind, Sem.run_pure, Result.andThen_ok, hat, List.map_toArray, List.map_cons, List.map_nil, hr]
  generalize a.eval x = vx at hx hexec
  generalize a.eval y = vy at hy hexec
  generalize strip (aval s x) = xv at *
  generalize strip (aval s y) = yv at *
  unfold appendV at he
  split at he
  case h_2 => simp at he
  case h_1 ti m H th rd hti hsrc =>
    obtain ⟨el, hu, hl⟩ := run_elem (P := P) hT hti w
    obtain ⟨i, hi, hib, his⟩ := run_bytes hT hl w
    obtain ⟨i', hi', his', hib', z, hz, _, _, hzs, _⟩ := hT.info _ _ hl
    split at he
    case h_2 => simp at he
    case h_1 hbb =>
      simp only [Bool.and_eq_true] at hbb
      have hb2 : ti.bytes ≤ 1024 := Nat.le_of_ble_eq_true hbb.1
      have hb1 : 1 ≤ ti.bytes := Nat.le_of_ble_eq_true hbb.2
      split at he
      · -- onto nil
        cases hjo : joinTag ti.flat tagS th m H with
        | mk tj jo =>
        simp only [hjo, Option.some.injEq] at he
        subst he
        have hm : m ≤ most := ho _ (List.mem_cons_self ..)
        have hsz : sizedL ti.size m H := ho _ (List.mem_cons_of_mem _ (List.mem_cons_self ..))
        have hjo' : ∀ p ∈ jo, p := fun p hp => ho p (List.mem_cons_of_mem _ (List.mem_cons_of_mem _ hp))
        obtain ⟨a0, c0, news, hvx, hnr, hns, hrep⟩ := src_run (P := P) (size := ti.size) h hsrc hy hsz (fun id n blk hyv hlk sz n' g' te hblk => by
          subst hyv hblk
          simp only [srcV, hlk, Option.some.injEq, Prod.mk.injEq] at hsrc
          obtain ⟨rfl, rfl, rfl, rfl⟩ := hsrc
          cases hy with
          | atom hv _ => simp [isP] at hv
          | osl0 => exact .inr (.inr rfl)
          | osl hi hn hc hs hcs =>
            by_cases h0 : n = 0
            · exact .inr (.inr h0)
            · obtain ⟨q1, q2, cells, e', hh, _, hlen, _⟩ := (h.own id _ _ _ _ hlk hi).1
              left
              rw [q1, ← (hsz 0 (by omega)).1]
              rw [hlen 0 (by omega)])
        cases hx with
        | atom _ hp =>
          cases hp with
          | nil base =>
            by_cases h0 : m = 0
            · subst h0
              have hn0 : news.size = 0 := by rw [hns]; simp
              have hnews : news = #[] := Array.eq_empty_of_size_eq_zero hn0
              subst hnews
              have hrun := hexec (.slice base 0 0) w (by
                rw [hvx]
                have h1 := hnr w rfl
                rw [hvx] at h1
                unfold Builtin.append_
                cases base <;> simp [hu, huu, run_size hT hl, Builtin.lenOf, h1, storeCells])
              have hnil := h.addNil hf (sz := ti.size) (te := (match ti.flat with | true => tagS | false => th)) (f := H)
              exact does_mem hd hrun (hnil.congr (fun _ => rfl) fun k => rfl) (.osl0 base (by simp [updI]))
            · have hrun := hexec _ _ (by
                rw [hvx]
                rw [hvx] at hnr
                exact run_append_new (P := P) (ty := o.type) (n := 0) (cap := 0) (old := #[]) hu ⟨_, huu⟩ hi' his' hib' hz rest (fun w' _ => by cases base <;> simp [Builtin.firstCells, loadCells, loadCellsFrom]) hnr (by omega) hb1 hb2 (by omega))
              have happ : appg 0 (fun _ => V.undef) H = H := by funext k; simp [appg]
              have hmain := append_new (P := P) h hf hd hl (n := 0) (m := m) (F := fun _ => .undef) (H := H) (old := #[]) (news := news) (tj := (match ti.flat with | true => tagS | false => th)) (rd := rd) (ob := (m ≤ most) :: sizedL ti.size m H :: jo) (upd0 := [])
                (fun k => rfl) (by simp) hns (fun i hi => by omega) (fun i hi => (hsz i hi).1) (fun i j hi => by omega) (fun i j hi hj => by
                  have h1 := hrep i j hi hj
                  cases hfl : ti.flat with
                  | false => exact h1
                  | true =>
                    rw [hfl] at hjo
                    have h2 := (join_ok h.frS h.fr0 hjo hjo').2 i j _ hi (by rw [(hsz i hi).1]; exact hj) h1
                    unfold joinTag at hjo
                    simp only at hjo
                    split at hjo
                    · simp only [Prod.mk.injEq] at hjo; rw [← hjo.1] at h2; exact h2
                    · simp only [Prod.mk.injEq] at hjo; rw [← hjo.1] at h2; exact h2
                    · rename_i hne1 hne2
                      exfalso
                      cases hq : Nat.beq th tagS with
                      | true => exact hne1 (natBeq.2 rfl) hq
                      | false => exact hne2 (natBeq.2 rfl) hq)
                hzs (grownCap_ge' _ _ _ _) hrun
              rw [happ, Nat.zero_add] at hmain
              exact hmain
      · -- onto a row of one's own
        rename_i id n
        split at he
        case h_2 => simp at he
        case h_1 sz n' F te hlk =>
          cases hjo : joinTag ti.flat te th m H with
          | mk tj jo =>
          simp only [hjo] at he
          cases hszb : Nat.beq sz ti.size with
          | false => simp [hszb] at he
          | true =>
          cases h64 : Nat.ble 64 id with
          | false => simp [hszb, h64] at he
          | true =>
          simp only [hszb, h64, Option.some.injEq] at he
          subst he
          have e0 := natBeq.1 hszb
          subst e0
          have hid64 : 64 ≤ id := Nat.le_of_ble_eq_true h64
          have hnn : n = n' := ho _ (List.mem_cons_self ..)
          subst hnn
          have hm : n + m ≤ most := ho _ (List.mem_cons_of_mem _ (List.mem_cons_self ..))
          have hsz : sizedL ti.size m H := ho _ (List.mem_cons_of_mem _ (List.mem_cons_of_mem _ (List.mem_cons_self ..)))
          have hjo' : ∀ p ∈ jo, p := fun p hp => ho p (List.mem_cons_of_mem _ (List.mem_cons_of_mem _ (List.mem_cons_of_mem _ hp)))
          obtain ⟨j1, j2⟩ := join_ok (w := w) h.frS h.fr0 hjo hjo'
          have hsid : site ≠ id := by
            intro e1
            have := hf.no
            rw [e1, hlk] at this
            cases this
          obtain ⟨a0, c0, news, hvx, hnr, hns, hrep⟩ := src_run (P := P) (size := ti.size) h hsrc hy hsz (fun id n blk hyv hlk sz n' g' te hblk => by
            subst hyv hblk
            simp only [srcV, hlk, Option.some.injEq, Prod.mk.injEq] at hsrc
            obtain ⟨rfl, rfl, rfl, rfl⟩ := hsrc
            cases hy with
            | atom hv _ => simp [isP] at hv
            | osl0 => exact .inr (.inr rfl)
            | osl hi hn hc hs hcs =>
              by_cases h0 : n = 0
              · exact .inr (.inr h0)
              · obtain ⟨q1, q2, cells, e', hh, _, hlen, _⟩ := (h.own id _ _ _ _ hlk hi).1
                left
                rw [q1, ← (hsz 0 (by omega)).1]
                rw [hlen 0 (by omega)])
          rw [hvx] at hnr
          have hupd : ∀ k, lk (applyUpd (del s.S id) ([] ++ [(site, some (.arr ti.size (n + m) (appg n F H) tj))])) k = lk (put (del s.S id) site (.arr ti.size (n + m) (appg n F H) tj)) k := fun k => rfl
          have hdrop := h.drop id
          have hfd := hf.del id
          have back : ∀ rd ob, Does P g (({ s with S := del s.S id } : AS).app o.dst ⟨.osl site (n + m), [] ++ [(site, some (.arr ti.size (n + m) (appg n F H) tj))], rd, ob⟩) a w o →
              Does P g (s.app o.dst ⟨.osl site (n + m), [(id, none), (site, some (.arr ti.size (n + m) (appg n F H) tj))], rd, ob⟩) a w o := fun _ _ hq => hq
          cases hx with
          | atom hv _ => simp [isP] at hv
          | osl0 base hi0 =>
            by_cases h0 : m = 0
            · subst h0
              have hn0 : news.size = 0 := by rw [hns]; simp
              have hnews : news = #[] := Array.eq_empty_of_size_eq_zero hn0
              subst hnews
              have hrun := hexec (.slice base 0 0) w (by
                rw [hvx]
                have h1 := hnr w rfl
                unfold Builtin.append_
                cases base <;> simp [hu, huu, run_size hT hl, Builtin.lenOf, h1, storeCells])
              have hnil := hdrop.addNil hfd (sz := ti.size) (te := tj) (f := appg 0 F H)
              exact does_mem hd hrun (hnil.congr (fun _ => rfl) fun k => rfl) (.osl0 base (by simp [updI]))
            · have hrun := hexec _ _ (by
                rw [hvx]
                exact run_append_new (P := P) (ty := o.type) (n := 0) (cap := 0) (old := #[]) hu ⟨_, huu⟩ hi' his' hib' hz rest (fun w' _ => by cases base <;> simp [Builtin.firstCells, loadCells, loadCellsFrom]) hnr (by omega) hb1 hb2 (by omega))
              exact back _ _ (append_new (P := P) hdrop hfd hd hl (n := 0) (m := m) (F := F) (H := H) (old := #[]) (news := news) (tj := tj) (upd0 := [])
                hupd (by simp) hns (fun i hi => by omega) (fun i hi => (hsz i hi).1) (fun i j hi => by omega) (fun i j hi hj => j2 i j _ hi (by rw [(hsz i hi).1]; exact hj) (hrep i j hi hj)) hzs (grownCap_ge' _ _ _ _) hrun)
          | @osl _ _ b sz2 mm cap cz e2 hid hn2 hcap hsh hcs =>
            obtain ⟨hown, hmine⟩ := h.own id _ b sz2 mm hlk hid
            have hblt := hown.lt
            obtain ⟨rfl, rfl, cells, e', hh, hcsz, hFl, hFr⟩ := hown
            have hb0 : g.w0.heap.size ≤ b := by
              rcases hmine with h' | ⟨_, h'⟩
              · exact h'
              · omega
            have hcells : cells.size = cz ∧ e' = e2 := by
              unfold World.shape? at hsh
              rw [hh] at hsh
              simp only [Option.some.injEq, Prod.mk.injEq] at hsh
              exact ⟨hsh.2, hsh.1⟩
            by_cases hroom : n + m ≤ cap
            · -- in place
              have hle : n * ti.size + news.size ≤ cells.size := by
                rw [hns, hcells.1, ← Nat.add_mul]
                exact Nat.le_trans (Nat.mul_le_mul_right _ hroom) hcs
              have hone := news_one hsz hns hrep
              have hrun := hexec _ _ (by
                rw [hvx]
                exact run_append_in (P := P) (ty := o.type) (n := n) (cap := cap) hu ⟨_, huu⟩ (run_size hT hl w) rest hh (hnr w rfl) hone hle hroom)
              have hno : ∀ k c r, lk (del s.S id) k = some c → ι k = some r → r.1 ≠ b := by
                intro k c r hk hr e1
                rw [lk_del] at hk
                by_cases e3 : k = id
                · simp [e3] at hk
                · simp only [e3, if_false] at hk
                  exact e3 (h.inj k id c _ r _ hk hlk hr hid e1)
              have hFrb : ∀ t, ¬ Fr t b := fun t hf => (h.fr t b hf).2.2 id _ _ hlk hid rfl
              have hsh' : ∀ k x', w.shape? k = some x' → (withCells w b (writeArr cells (n * ti.size) news.toList) e').shape? k = some x' := fun k x' hk => shape_with hh (writeArr_size _ _ _) hk
              have htouch := hdrop.touch (w' := withCells w b (writeArr cells (n * ti.size) news.toList) e') hb0 hno hFrb rfl rfl rfl withCells_size (fun k hk => withCells_ne hk) hsh'
              have hmono : ∀ c v, PRep w (Fr tj) c v → PRep (withCells w b (writeArr cells (n * ti.size) news.toList) e') (Fr tj) c v :=
                fun c v hp => hp.mono fun k hk => ⟨hk, withCells_ne fun e1 => hFrb tj (e1 ▸ hk)⟩
              have hlen2 : news.toList.length = m * ti.size := by simpa using hns
              have hadd := htouch.addBlk hfd (b := b) (sz := ti.size) (m := n + m) (blk := .arr ti.size (n + m) (appg n F H) tj) (by
                refine ⟨rfl, rfl, _, e', withCells_get hblt, ?_, fun i hi => ?_, ?_⟩
                · rw [writeArr_size, Nat.add_mul]; omega
                · by_cases h1 : i < n
                  · rw [appg_lt h1]; exact hFl i h1
                  · rw [appg_ge (by omega)]; exact (hsz _ (by omega)).1
                · refine row_join (fun i j hi hj => ?_) (fun i j hi hj => ?_)
                  · have h1 : i * ti.size + j < n * ti.size := by
                      have e1 : i * ti.size + ti.size = (i + 1) * ti.size := by rw [Nat.add_mul, Nat.one_mul]
                      have e2 : (i + 1) * ti.size ≤ n * ti.size := Nat.mul_le_mul_right _ hi
                      omega
                    rw [writeArr_getD _ _ _ _ (by rw [hlen2]; omega), if_neg (by omega)]
                    exact hmono _ _ (j1 _ _ (hFr i j hi hj))
                  · have h1 : n * ti.size ≤ (n + i) * ti.size + j ∧ (n + i) * ti.size + j < n * ti.size + news.toList.length := by
                      rw [hlen2]
                      have e1 : i * ti.size + ti.size = (i + 1) * ti.size := by rw [Nat.add_mul, Nat.one_mul]
                      have e2 : (i + 1) * ti.size ≤ m * ti.size := Nat.mul_le_mul_right _ hi
                      rw [Nat.add_mul]; omega
                    rw [writeArr_getD _ _ _ _ (by rw [hlen2]; omega), if_pos h1, toList_getD]
                    have e1 : (n + i) * ti.size + j - n * ti.size = i * ti.size + j := by rw [Nat.add_mul]; omega
                    rw [e1]
                    exact hmono _ _ (j2 i j _ hi (by rw [(hsz i hi).1]; exact hj) (hrep i j hi hj))) hb0 hFrb hno
              refine back _ _ (does_mem hd hrun (hadd.congr (fun _ => rfl) fun k => rfl) ?_)
              exact .osl (b := b) (sz := ti.size) (m := n + m) (e := e') (c := cells.size) (by simp [updI]) (Nat.le_refl _) hroom
                (hsh' b _ (by unfold World.shape?; rw [hh])) (by rw [hcells.1]; exact hcs)
            · -- in new memory
              have hold : ∃ old : Array Value, (∀ w' : World, w'.heap = w.heap → (Builtin.firstCells ti.size n (.slice (some ⟨b, 0, none⟩) n cap)).run P w' = .ok old w') ∧ old.size = n * ti.size ∧
                  ∀ i j, i < n → j < ti.size → old.getD (i * ti.size + j) Go.undef = cells.getD (i * ti.size + j) Go.undef := by
                obtain ⟨arr, h1, h2, h3⟩ := load_rows (P := P) (w := w) (b := b) (off := 0) (m := n) (size := ti.size) (cv := fun i j => cells.getD (i * ti.size + j) Go.undef) (fun i j hi hj => by
                  have e1 : i * ti.size + ti.size = (i + 1) * ti.size := by rw [Nat.add_mul, Nat.one_mul]
                  have e2 : (i + 1) * ti.size ≤ n * ti.size := Nat.mul_le_mul_right _ hi
                  rw [Nat.zero_add]; exact cell_of hh (by omega))
                exact ⟨arr, fun w' hw' => by simpa [Builtin.firstCells] using h1 w' hw', h2, h3⟩
              obtain ⟨old, ho1, ho2, ho3⟩ := hold
              have hrun := hexec _ _ (by
                rw [hvx]
                exact run_append_new (P := P) (ty := o.type) hu ⟨_, huu⟩ hi' his' hib' hz rest ho1 hnr hroom hb1 hb2 hm)
              exact back _ _ (append_new (P := P) hdrop hfd hd hl (n := n) (m := m) (F := F) (H := H) (old := old) (news := news) (tj := tj) (upd0 := [])
                hupd ho2 hns hFl (fun i hi => (hsz i hi).1) (fun i j hi hj => by rw [ho3 i j hi hj]; exact j1 _ _ (hFr i j hi hj)) (fun i j hi hj => j2 i j _ hi (by rw [(hsz i hi).1]; exact hj) (hrep i j hi hj)) hzs (grownCap_ge' _ _ _ _) hrun)
      · simp at he

end
end Go.Av
