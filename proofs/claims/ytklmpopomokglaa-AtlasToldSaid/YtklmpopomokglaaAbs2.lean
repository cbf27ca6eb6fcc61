/- How the world's own steps keep what stands: a new block, a block written, a draw. -/
import Derived.Test.YtklmpopomokglaaAbs1
set_option linter.unusedSimpArgs false
set_option linter.unusedVariables false
namespace Go.Abs
open Go

theorem cell_of_heap {w w' : World} {b : Nat} (h : w'.heap[b]? = w.heap[b]?) (o : Nat) : w'.cell? ⟨b, o, none⟩ = w.cell? ⟨b, o, none⟩ := by
  simp only [World.cell?, h]

theorem DRel.one {w : World} {S : Nat → Nat → Prop} {x : D} {v : Value} (h : DRel w S x v) : v.oneCell' = true := by cases h <;> rfl

theorem CRel.one {w : World} {G : Gh} {H : List AB} {x : C} {v : Value} (h : CRel w G H x v) (hx : x ≠ .any) : v.oneCell' = true := by
  cases h with
  | any => exact absurd rfl hx
  | d x v h => exact h.one
  | _ => rfl

theorem cells_of_one {v : Value} (h : v.oneCell' = true) : v.cells = #[v] := by
  cases v <;> first | rfl | (simp [Value.oneCell'] at h)

/-- Same heap: all stands. -/
theorem Rel.of_heap {w w' : World} {G : Gh} {H : List AB} (e : w'.heap = w.heap) (h : Rel w G H) (eo : w'.os = w.os := by rfl) (eu : w'.output = w.output := by rfl) : Rel w' G H ∧ Later w G H w' G H := by
  have L : Later w G H w' G H :=
    { size := by rw [e]; exact Nat.le_refl _
      S := fun b o h => ⟨h, cell_of_heap (by rw [e]) o⟩
      Snew := fun _ _ _ _ h => h
      len := Nat.le_refl _
      rho := fun _ _ => rfl
      grow := fun id n sz _ h => ⟨n, h, .inr ⟨rfl, rfl⟩⟩
      role := fun _ _ => rfl
      frame := fun b _ _ => by rw [e]
      os := eo
      out := eu }
  refine ⟨⟨fun b o hs => ?_, fun b id hr => by rw [e]; exact h.roleLt b id hr, fun id x hx => ?_⟩, L⟩
  · obtain ⟨v, hv⟩ := h.sex b o hs
    exact ⟨v, by rw [cell_of_heap (w := w) (by rw [e])]; exact hv⟩
  · cases h.ab id x hx with
    | gone => exact .gone
    | cells cs arr t hb hr hrole hS => exact .cells cs arr t (by rw [e]; exact hb) (hr.mono L) hrole hS
    | grow n sz a cap hg hcap h hnil => exact .grow n sz a cap hg hcap (fun x hx hn => by obtain ⟨b, o, h1, h2, h3, h4⟩ := h x hx hn; exact ⟨b, o, h1, h2, by rw [e]; exact h3, h4⟩) hnil
    | mp es rs clock hb hr hrole => exact .mp es rs clock (by rw [e]; exact hb) (hr.mono L) hrole
    | lp r fn tmps hb hsz hD hs hrole => exact .lp r fn tmps (by rw [e]; exact hb) hsz hD (fun i => (hs i).mono L) hrole
    | df hb hrole => exact .df (by rw [e]; exact hb) hrole

/-- An owned block that no step touched. -/
theorem ABRel.mono {w w' : World} {G G' : Gh} {H H' : List AB} (R : Rel w G H) (L : Later w G H w' G' H') {id : Nat} {x : AB} (hid : id < H.length) (h : ABRel w G H id x)
    (hb : ∀ b, G.role b = some id → w'.heap[b]? = w.heap[b]?) (hS : ∀ b o, G.role b = some id → G'.S b o → G.S b o) (hg : G'.g id = G.g id) : ABRel w' G' H' id x := by
  have er := L.rho id hid
  have hrole : ∀ b, G.role b = some id → G'.role b = some id := fun b h => (L.role b (R.roleLt b id h)).trans h
  cases h with
  | gone => exact .gone
  | cells cs arr t hb' hr hro hS' => exact .cells cs arr t (by rw [er, hb _ hro]; exact hb') (hr.mono L) (by rw [er]; exact hrole _ hro) (fun o ho => hS' o (hS _ o hro (by rw [← er]; exact ho)))
  | grow n sz a cap hg' hcap h hnil =>
    refine .grow n sz a cap (hg.trans hg') hcap (fun x hx hn => ?_) hnil
    obtain ⟨b, o, h1, h2, h3, h4⟩ := h x hx hn
    exact ⟨b, o, h1, hrole b h2, by rw [hb b h2]; exact h3, fun j hj hs => h4 j hj (hS b j h2 hs)⟩
  | mp es rs clock hb' hr hro => exact .mp es rs clock (by rw [er, hb _ hro]; exact hb') (hr.mono L) (by rw [er]; exact hrole _ hro)
  | lp r fn tmps hb' hsz hD hs hro => exact .lp r fn tmps (by rw [er, hb _ hro, L.rho _ hD]; exact hb') hsz (Nat.lt_of_lt_of_le hD L.len) (fun i => (hs i).mono L) (by rw [er]; exact hrole _ hro)
  | df hb' hro => exact .df (by rw [er, hb _ hro]; exact hb') (by rw [er]; exact hrole _ hro)

def upd {α : Type} (f : Nat → α) (i : Nat) (x : α) : Nat → α := fun j => if j = i then x else f j
theorem upd_same {α : Type} (f : Nat → α) (i : Nat) (x : α) : upd f i x i = x := by simp [upd]
theorem upd_ne {α : Type} (f : Nat → α) {i j : Nat} (x : α) (h : j ≠ i) : upd f i x j = f j := by simp [upd, h]

theorem heap_alloc_lt (w : World) (o : Obj) {b : Nat} (h : b < w.heap.size) : (w.alloc o).heap[b]? = w.heap[b]? := heap_alloc_old w o b h
theorem heap_alloc_at (w : World) (o : Obj) : (w.alloc o).heap[w.heap.size]? = some o := heap_alloc_new w o

def Gh.own (G : Gh) (id b : Nat) : Gh := { G with rho := upd G.rho id b, role := upd G.role b (some id) }

/-- A new block, owned. -/
theorem Later.alloc_own {w : World} {G : Gh} {H : List AB} (R : Rel w G H) (o : Obj) (y : AB) : Later w G H (w.alloc o) (G.own H.length w.heap.size) (H ++ [y]) where
  size := by simp
  S := fun b o' h => ⟨h, by
    obtain ⟨v, hv⟩ := R.sex b o' h
    exact cell_of_heap (heap_alloc_lt w o (World.block_lt_of_cell? w _ hv)) o'⟩
  Snew := fun _ _ _ _ h => h
  len := by simp
  rho := fun id h => upd_ne _ _ (Nat.ne_of_lt h)
  grow := fun id n sz hid h => ⟨n, by rwa [List.getElem?_append_left hid] at h, .inr ⟨rfl, rfl⟩⟩
  role := fun b h => upd_ne _ _ (Nat.ne_of_lt h)
  frame := fun b h _ => heap_alloc_lt w o h
  os := rfl
  out := rfl

theorem Rel.alloc_own {w : World} {G : Gh} {H : List AB} (R : Rel w G H) (o : Obj) (y : AB)
    (hy : ABRel (w.alloc o) (G.own H.length w.heap.size) (H ++ [y]) H.length y) : Rel (w.alloc o) (G.own H.length w.heap.size) (H ++ [y]) := by
  have L := Later.alloc_own R o y
  refine ⟨fun b o' hs => ?_, fun b id hr => ?_, fun id x hx => ?_⟩
  · obtain ⟨v, hv⟩ := R.sex b o' hs
    exact ⟨v, ((L.S b o' hs).2).trans hv⟩
  · simp only [World.size_alloc]
    by_cases e : b = w.heap.size
    · omega
    · have := R.roleLt b id (by simpa [Gh.own, upd_ne _ _ e] using hr)
      omega
  · by_cases e : id < H.length
    · rw [List.getElem?_append_left e] at hx
      refine (R.ab id x hx).mono R L e (fun b hb => heap_alloc_lt w o (R.roleLt b id hb)) (fun b o hb h => h) rfl
    · have : id = H.length := by
        have := (List.getElem?_eq_some_iff.1 hx).1
        simp at this
        omega
      subst this
      simp at hx
      rw [← hx]
      exact hy

theorem Rel.noS_new {w : World} {G : Gh} {H : List AB} (R : Rel w G H) (o : Nat) : ¬ G.S w.heap.size o := fun h => by
  obtain ⟨v, hv⟩ := R.sex _ o h
  have := World.block_lt_of_cell? w _ hv
  simp at this

theorem Rel.noRole_new {w : World} {G : Gh} {H : List AB} (R : Rel w G H) : G.role w.heap.size = none := by
  cases h : G.role w.heap.size with
  | none => rfl
  | some id => exact absurd (R.roleLt _ id h) (Nat.lt_irrefl _)

theorem Rel.alloc_cells {w : World} {G : Gh} {H : List AB} (R : Rel w G H) {cs : List C} {arr : Array Value} (t : TypeId) (h : CsRel w G H cs arr.toList) :
    Rel (w.alloc (.cells arr t)) (G.own H.length w.heap.size) (H ++ [.cells cs]) := by
  refine R.alloc_own _ _ (.cells cs arr t ?_ (h.mono (Later.alloc_own R _ _)) ?_ ?_)
  · simp only [Gh.own, upd_same]; exact heap_alloc_at w _
  · simp [Gh.own, upd_same]
  · intro o; simp only [Gh.own, upd_same]; exact R.noS_new o

theorem Rel.alloc_map {w : World} {G : Gh} {H : List AB} (R : Rel w G H) (clock : Nat) : Rel (w.alloc (.map #[] clock)) (G.own H.length w.heap.size) (H ++ [.mp []]) := by
  refine R.alloc_own _ _ (.mp [] #[] clock ?_ ⟨rfl, fun i e r he => by simp at he⟩ ?_)
  · simp only [Gh.own, upd_same]; exact heap_alloc_at w _
  · simp [Gh.own, upd_same]

/-- A new block that nobody owns: its cells are data from now on. -/
def Gh.lay (G : Gh) (b n : Nat) : Gh := { G with S := fun b' o => G.S b' o ∨ (b' = b ∧ o < n) }

theorem Later.alloc_data {w : World} {G : Gh} {H : List AB} (R : Rel w G H) (o : Obj) (n : Nat) : Later w G H (w.alloc o) (G.lay w.heap.size n) H where
  size := by simp
  S := fun b o' h => ⟨.inl h, by
    obtain ⟨v, hv⟩ := R.sex b o' h
    exact cell_of_heap (heap_alloc_lt w o (World.block_lt_of_cell? w _ hv)) o'⟩
  Snew := fun b o' hb _ h => by
    rcases h with h | ⟨h, _⟩
    · exact h
    · omega
  len := Nat.le_refl _
  rho := fun _ _ => rfl
  grow := fun id n sz _ h => ⟨n, h, .inr ⟨rfl, rfl⟩⟩
  role := fun _ _ => rfl
  frame := fun b h _ => heap_alloc_lt w o h
  os := rfl
  out := rfl

theorem Rel.alloc_data {w : World} {G : Gh} {H : List AB} (R : Rel w G H) (arr : Array Value) (t : TypeId) : Rel (w.alloc (.cells arr t)) (G.lay w.heap.size arr.size) H := by
  have L := Later.alloc_data R (.cells arr t) arr.size
  refine ⟨fun b o' hs => ?_, fun b id hr => ?_, fun id x hx => ?_⟩
  · rcases hs with hs | ⟨rfl, ho⟩
    · obtain ⟨v, hv⟩ := R.sex b o' hs
      exact ⟨v, ((L.S b o' hs).2).trans hv⟩
    · exact ⟨arr[o'], by rw [World.cell?_alloc_new]; simp [ho]⟩
  · simp only [World.size_alloc]
    have := R.roleLt b id hr
    omega
  · refine (R.ab id x hx).mono R L (List.getElem?_eq_some_iff.1 hx).1 (fun b hb => heap_alloc_lt w _ (R.roleLt b id hb)) (fun b o hb h => ?_) rfl
    rcases h with h | ⟨rfl, _⟩
    · exact h
    · have := R.roleLt _ _ hb; omega

theorem put_other {w : World} {b k : Nat} {o : Obj} (h : k ≠ b) : (w.putObj b o).heap[k]? = w.heap[k]? := World.putObj_heap_other h
theorem put_same {w : World} {b : Nat} {o x : Obj} (h : w.heap[b]? = some x) : (w.putObj b o).heap[b]? = some o :=
  World.putObj_heap_same (Array.getElem?_eq_some_iff.1 h).1

/-- An owned block is written. -/
theorem Later.put_own {w : World} {G : Gh} {H : List AB} {id b : Nat} {o : Obj} {y : AB} (hb : G.role b = some id)
    (hS : ∀ j, G.S b j → (w.putObj b o).cell? ⟨b, j, none⟩ = w.cell? ⟨b, j, none⟩) (hy : ∀ n sz, y = .grow n sz → id < H.length → ∃ m, H[id]? = some (.grow m sz) ∧ (m < n ∨ m = n)) :
    Later w G H (w.putObj b o) G (H.set id y) where
  size := by simp
  S := fun b' o' h => ⟨h, by
    by_cases e : b' = b
    · subst e; exact hS o' h
    · exact cell_of_heap (put_other e) o'⟩
  Snew := fun _ _ _ _ h => h
  len := by simp
  rho := fun _ _ => rfl
  grow := fun id' n sz hid h => by
    by_cases e : id = id'
    · subst e
      simp [hid] at h
      obtain ⟨m, hm, hc⟩ := hy n sz h hid
      exact ⟨m, hm, hc.imp (fun e => e) (fun e => ⟨e, rfl⟩)⟩
    · rw [List.getElem?_set_ne e] at h
      exact ⟨n, h, .inr ⟨rfl, rfl⟩⟩
  role := fun _ _ => rfl
  frame := fun b' _ hr => put_other (fun e => by rw [e, hb] at hr; cases hr)
  os := rfl
  out := rfl

theorem Rel.put_own {w : World} {G : Gh} {H : List AB} {id b : Nat} {o : Obj} {y : AB} (R : Rel w G H) (hb : G.role b = some id) (L : Later w G H (w.putObj b o) G (H.set id y))
    (hy : id < H.length → ABRel (w.putObj b o) G (H.set id y) id y) : Rel (w.putObj b o) G (H.set id y) := by
  refine ⟨fun b' o' hs => ?_, fun b' i hr => by simpa using R.roleLt b' i hr, fun i x hx => ?_⟩
  · obtain ⟨v, hv⟩ := R.sex b' o' hs
    exact ⟨v, ((L.S b' o' hs).2).trans hv⟩
  · by_cases e : id = i
    · subst e
      have hlt : id < H.length := by have := (List.getElem?_eq_some_iff.1 hx).1; simpa using this
      simp [hlt] at hx
      rw [← hx]; exact hy hlt
    · rw [List.getElem?_set_ne e] at hx
      exact (R.ab i x hx).mono R L (List.getElem?_eq_some_iff.1 hx).1 (fun b' hb' => put_other (fun e' => by rw [e', hb] at hb'; exact e (Option.some.inj hb'))) (fun _ _ _ h => h) rfl

theorem Rel.put_cells {w : World} {G : Gh} {H : List AB} {id : Nat} {cs cs' : List C} {arr arr' : Array Value} {t : TypeId} (R : Rel w G H) (hid : H[id]? = some (.cells cs))
    (hb : w.heap[G.rho id]? = some (.cells arr t (0, 0))) (h : CsRel w G H cs' arr'.toList) :
    Rel (w.putObj (G.rho id) (.cells arr' t (0, 0))) G (H.set id (.cells cs')) ∧ Later w G H (w.putObj (G.rho id) (.cells arr' t (0, 0))) G (H.set id (.cells cs')) := by
  cases R.ab id _ hid with
  | cells _ arr0 t0 hb0 hr0 hrole hS =>
    have L : Later w G H (w.putObj (G.rho id) (.cells arr' t (0, 0))) G (H.set id (.cells cs')) :=
      Later.put_own hrole (fun j hj => absurd hj (hS j)) (fun n sz e => by cases e)
    exact ⟨R.put_own hrole L (fun _ => .cells cs' arr' t (put_same hb) (h.mono L) hrole hS), L⟩
end Go.Abs
