/-
  The vault's calls on a state: what Append, Replace and Open make of it.
  The same calls for a law's walk: all that they change lies from lo on. The walk of sanity.
  The walks of the reference's Mod and of the law's do.
  The walk of the reference's After, for a Replace.
-/
import Derived.Test.YtgdkdihedgiegaaDoorV16
namespace Go.Proofs.YtgdkdihedgiegaaDoor
open Go.RowKit

/-- A disk with power in block b, whose contents are clean, of a state. -/
structure DS (F : Nat → Prop) (w : World) (b : Nat) (sn : Bs) (tl : List Bs) (c : Bs) (l : Int) : Prop where
  disk : DiskAt F w b (onD c l)
  clean : CleanC c sn tl
  fit : (imageR sn tl).length ≤ 20000
  cl : c.length ≤ 100000
  lo : -1 ≤ l
  hi : l ≤ 1000
/-- A vault of it in block g. -/
structure VS (F : Nat → Prop) (w : World) (g b : Nat) (sn : Bs) (tl : List Bs) (c : Bs) (l : Int) : Prop where
  ds : DS F w b sn tl c l
  vd : VD F w g b ((64 + (imageR sn tl).length : Nat) : Int) tl.length false (onD c l)
theorem DS.ok {F : Nat → Prop} {w : World} {b : Nat} {sn : Bs} {tl : List Bs} {c : Bs} {l : Int} (h : DS F w b sn tl c l) : OkD (onD c l) :=
  ⟨h.lo, h.hi, fun hf => absurd hf (by simp [onD]), Nat.le_trans h.cl (by omega)⟩
theorem VS.below {F : Nat → Prop} {w w' : World} {g b : Nat} {sn : Bs} {tl : List Bs} {c : Bs} {l : Int} (h : VS F w g b sn tl c l) (hb : Below w.heap.size w w') : VS F w' g b sn tl c l :=
  ⟨⟨h.ds.disk.below hb, h.ds.clean, h.ds.fit, h.ds.cl, h.ds.lo, h.ds.hi⟩, h.vd.below hb⟩
theorem tail_len (sn : Bs) (tl : List Bs) : tl.length ≤ (imageR sn tl).length := by
  have := frames_len tl; unfold imageR; simp only [List.length_append]; omega
theorem rec_len (sn : Bs) (tl : List Bs) (r : Bs) (h : r ∈ tl) : r.length ≤ (imageR sn tl).length := by
  obtain ⟨s, t, rfl⟩ := List.append_of_mem h
  unfold imageR
  rw [List.flatMap_append, List.flatMap_cons]
  simp only [List.length_append, frameR, List.length_cons]
  omega
theorem snap_len (sn : Bs) (tl : List Bs) : sn.length ≤ (imageR sn tl).length := by
  unfold imageR; simp only [List.length_append]; omega
/-- The post of a call that turns the state. -/
def TurnPost (F : Nat → Prop) (g b : Nat) (sn : Bs) (tl : List Bs) (l : Int) (w : World) (e : Ending) (w' : World) : Prop :=
  e = .returned (.int .i64 0) ∧ ∃ F' c, VS F' w' g b sn tl c l ∧ Step (With F g) w (With F' g) w'
theorem append_S (F : Nat → Prop) (w : World) (g b : Nat) (sn : Bs) (tl : List Bs) (c : Bs) (l : Int) (h : VS F w g b sn tl c l) (r : Bs) (hf : (imageR sn (tl ++ [r])).length ≤ 20000) :
    Calls Tryd.prog 21 #[.pointer (some ⟨g, 0, none⟩), S r] w (TurnPost F g b sn (tl ++ [r]) l w) := by
  have hi := image_snoc sn tl r
  have hl : (imageR sn (tl ++ [r])).length = (imageR sn tl).length + (frameR r).length := by rw [hi, List.length_append]
  have hr := rec_len sn (tl ++ [r]) r (by simp)
  have ht := tail_len sn tl
  have hfit := h.ds.fit
  refine (append_21 F w g b (64 + (imageR sn tl).length) tl.length (onD c l) h.vd h.ds.ok (by simp [onD]) r (by omega) (by omega) (by omega)).mono ?_
  rintro e w' ⟨rfl, F', hv, hst⟩
  rw [run_on] at hv ⊢
  simp only [if_pos] at hv
  refine ⟨rfl, F', _, ⟨⟨hv.disk, clean_append h.ds.clean r, hf, ?_, h.ds.lo, h.ds.hi⟩, ?_⟩, hst⟩
  · rw [append_len]; have := h.ds.cl; omega
  · have h2 : ((tl ++ [r]).length : Int) = ((tl.length + 1 : Nat) : Int) := by simp
    rw [hl, h2, ← Nat.add_assoc]
    exact hv
theorem replace_S (F : Nat → Prop) (w : World) (g b : Nat) (sn : Bs) (tl : List Bs) (c : Bs) (l : Int) (h : VS F w g b sn tl c l) (sn' : Bs) (tv : Value) (tl' : List Bs) (ht : TailAt w tv tl') (hf : (imageR sn' tl').length ≤ 20000) :
    Calls Tryd.prog 22 #[.pointer (some ⟨g, 0, none⟩), S sn', tv] w (TurnPost F g b sn' tl' l w) := by
  have hfit := h.ds.fit
  refine (replace_22 F w g b (64 + (imageR sn tl).length) tl.length (onD c l) h.vd h.ds.ok (by simp [onD]) sn' tv tl' ht (by omega) (by omega)).mono ?_
  rintro e w' ⟨rfl, F', hv, hst⟩
  rw [run_on] at hv ⊢
  simp only [if_pos] at hv
  refine ⟨rfl, F', _, ⟨⟨hv.disk, clean_replace h.ds.clean sn' tl', hf, ?_, h.ds.lo, h.ds.hi⟩, hv⟩, hst⟩
  rw [replace_len]
  have := h.ds.cl
  have := kR_ge (64 + (imageR sn tl).length) (imageR sn' tl').length
  omega
/-- The post of Open. -/
def OpenedPost (F : Nat → Prop) (b : Nat) (sn : Bs) (tl : List Bs) (l : Int) (w : World) (e : Ending) (w' : World) : Prop :=
  ∃ F' g v c, e = .returned (.tuple #[.pointer (some ⟨g, 0, none⟩), S sn, v, .int .i64 0]) ∧ VS F' w' g b sn tl c l ∧ SliceAt w.heap.size w'.heap.size w' v tl.length (tl.map S) ∧ Step F w (With F' g) w' ∧ w.heap.size ≤ g
theorem open_any (F : Nat → Prop) (w : World) (b : Nat) (D : DiskD) (c : Bs) (l : Int) (hd : DiskAt F w b D) (hs : syncD D = (onD c l, 0)) (hnow : D.now = c) (hok : OkD D) (sn x : Bs) (tl : List Bs) (st : List (Nat × Bs)) (ho : openR c = some (sn, tl, x, st)) (hf : (imageR sn tl).length ≤ 20000) (hcl : c.length ≤ 100000) (hlo : -1 ≤ l) (hhi : l ≤ 1000) :
    Calls Tryd.prog 13 #[.pointer (some ⟨b, 0, none⟩)] w (OpenedPost F b sn tl l w) := by
  refine (open_13 F w b D hd hok (by rw [hnow]; omega)).mono ?_
  intro e w' h
  unfold OpenPost at h
  rw [hs, if_pos rfl] at h
  simp only [show (onD c l).now = c from rfl, ho, run_on, if_true] at h
  obtain ⟨F', g, v, rfl, hv, hsl, hst, hg⟩ := h
  obtain ⟨h1, h2, h3⟩ := open_to ho
  rw [h3] at hv
  exact ⟨F', g, v, _, rfl, ⟨⟨hv.disk, h1, hf, by rw [h2]; exact hcl, hlo, hhi⟩, hv⟩, hsl, hst, hg⟩
theorem open_S (F : Nat → Prop) (w : World) (b : Nat) (sn : Bs) (tl : List Bs) (c : Bs) (l : Int) (h : DS F w b sn tl c l) :
    Calls Tryd.prog 13 #[.pointer (some ⟨b, 0, none⟩)] w (OpenedPost F b sn tl l w) := by
  obtain ⟨x, st, ho⟩ := open_of h.clean (by have := snap_len sn tl; have := h.fit; omega) (fun r hr => by have := rec_len sn tl r hr; have := h.fit; omega)
  exact open_any F w b (onD c l) c l h.disk (sync_on c l) rfl h.ok sn x tl st ho h.fit h.cl h.lo h.hi
theorem new_S (w : World) : Calls Tryd.prog 12 #[] w fun e w' => e = .returned (.pointer (some ⟨w.heap.size, 0, none⟩)) ∧ DS (fun k => k = w.heap.size) w' w.heap.size [] [] [] 0 ∧ Below w.heap.size w w' ∧ w'.heap.size = w.heap.size + 1 := by
  refine (new_12 w).mono ?_
  rintro e w' ⟨rfl, hd, hb, hs⟩
  exact ⟨rfl, ⟨hd, clean_nil, by rw [image_nil]; omega, by simp, by omega, by omega⟩, hb, hs⟩
theorem contents_S (F : Nat → Prop) (w : World) (b : Nat) (sn : Bs) (tl : List Bs) (c : Bs) (l : Int) (h : DS F w b sn tl c l) :
    Calls Tryd.prog 18 #[.pointer (some ⟨b, 0, none⟩)] w fun e w' => e = .returned (S (trimR (cleanR sn tl))) ∧ Below w.heap.size w w' := by
  have := contents_18 F w b (onD c l) h.disk (Nat.le_trans h.cl (by omega))
  rw [show (onD c l).now = c from rfl, h.clean.trim] at this
  exact this
theorem is_S (F : Nat → Prop) (w : World) (g b : Nat) (sn : Bs) (tl : List Bs) (c : Bs) (l : Int) (h : VS F w g b sn tl c l) (v1 v2 : Value) (h1 : TailAt w v1 tl) (h2 : TailAt w v2 tl) :
    Calls Tryd.prog 15 #[.pointer (some ⟨b, 0, none⟩), .pointer (some ⟨g, 0, none⟩), S sn, v1, .int .i64 0, .agg #[S sn, v2]] w fun e w' => e = .returned (.bool true) ∧ Below w.heap.size w w' :=
  is_15 F w g b _ sn tl c l h.vd h.ds.clean (Nat.le_trans h.ds.cl (by omega)) (Nat.le_trans h.ds.fit (by omega)) v1 v2 h1 h2
end Go.Proofs.YtgdkdihedgiegaaDoor

namespace Go.Proofs.YtgdkdihedgiegaaDoor
open Go.RowKit

structure LD (lo : Nat) (w : World) (b : Nat) (sn : Bs) (tl : List Bs) (l : Int) : Prop where
  ex : ∃ F c, DS F w b sn tl c l ∧ (∀ k, F k → lo ≤ k) ∧ lo ≤ w.heap.size
structure LV (lo : Nat) (w : World) (g b : Nat) (sn : Bs) (tl : List Bs) (l : Int) : Prop where
  ex : ∃ F c, VS F w g b sn tl c l ∧ (∀ k, With F g k → lo ≤ k) ∧ lo ≤ w.heap.size
theorem LV.ld {lo : Nat} {w : World} {g b : Nat} {sn : Bs} {tl : List Bs} {l : Int} (h : LV lo w g b sn tl l) : LD lo w b sn tl l := by
  obtain ⟨F, c, h1, h2, h3⟩ := h
  exact ⟨F, c, h1.ds, fun k hk => h2 k (.inl hk), h3⟩
theorem DS.below {F : Nat → Prop} {w w' : World} {b : Nat} {sn : Bs} {tl : List Bs} {c : Bs} {l : Int} (h : DS F w b sn tl c l) (hb : Below w.heap.size w w') : DS F w' b sn tl c l :=
  ⟨h.disk.below hb, h.clean, h.fit, h.cl, h.lo, h.hi⟩
theorem LD.below {lo : Nat} {w w' : World} {b : Nat} {sn : Bs} {tl : List Bs} {l : Int} (h : LD lo w b sn tl l) (hb : Below w.heap.size w w') : LD lo w' b sn tl l := by
  obtain ⟨F, c, h1, h2, h3⟩ := h
  exact ⟨F, c, h1.below hb, h2, Nat.le_trans h3 hb.size⟩
theorem LV.below {lo : Nat} {w w' : World} {g b : Nat} {sn : Bs} {tl : List Bs} {l : Int} (h : LV lo w g b sn tl l) (hb : Below w.heap.size w w') : LV lo w' g b sn tl l := by
  obtain ⟨F, c, h1, h2, h3⟩ := h
  exact ⟨F, c, h1.below hb, h2, Nat.le_trans h3 hb.size⟩
theorem LV.many {lo : Nat} {w : World} {g b : Nat} {sn : Bs} {tl : List Bs} {l : Int} (h : LV lo w g b sn tl l) : Calls Tryd.prog 20 #[.pointer (some ⟨g, 0, none⟩)] w fun e w' => e = .returned (.int .i64 tl.length) ∧ w' = w := by
  obtain ⟨F, c, h1, _⟩ := h
  exact many_20 w g b _ _ _ h1.vd.vault
theorem new_L (lo : Nat) (w : World) (hlo : lo ≤ w.heap.size) : Calls Tryd.prog 12 #[] w fun e w' => e = .returned (.pointer (some ⟨w.heap.size, 0, none⟩)) ∧ LD lo w' w.heap.size [] [] 0 ∧ Below lo w w' := by
  refine (new_S w).mono ?_
  rintro e w' ⟨rfl, h1, h2, h3⟩
  exact ⟨rfl, ⟨_, _, h1, fun k hk => by rw [hk]; exact hlo, by omega⟩, h2.mono hlo⟩
theorem open_L (lo : Nat) (w : World) (b : Nat) (sn : Bs) (tl : List Bs) (l : Int) (h : LD lo w b sn tl l) :
    Calls Tryd.prog 13 #[.pointer (some ⟨b, 0, none⟩)] w fun e w' => ∃ g a cap, e = .returned (.tuple #[.pointer (some ⟨g, 0, none⟩), S sn, .slice a tl.length cap, .int .i64 0]) ∧ LV lo w' g b sn tl l ∧ TailAt w' (.slice a tl.length cap) tl ∧ Below lo w w' ∧ w.heap.size ≤ g := by
  obtain ⟨F, c, h1, h2, h3⟩ := h
  refine (open_S F w b sn tl c l h1).mono ?_
  rintro e w' ⟨F', g, v, c', rfl, hv, hs, hst, hg⟩
  obtain ⟨a, cap, rfl, _⟩ := id hs
  have hb := hst.below h2 h3
  exact ⟨g, a, cap, rfl, ⟨F', c', hv, hb.2, Nat.le_trans h3 hb.1.size⟩, hs.mono (Nat.zero_le _) (Nat.le_refl _), hb.1, hg⟩
/-- The post of a call that turns the state. -/
def TurnL (lo g b : Nat) (sn : Bs) (tl : List Bs) (l : Int) (w : World) (e : Ending) (w' : World) : Prop := e = .returned (.int .i64 0) ∧ LV lo w' g b sn tl l ∧ Below lo w w'
theorem turn_L {lo g b : Nat} {sn' : Bs} {tl' : List Bs} {l : Int} {w : World} {f : Nat} {args : Array Value} {F : Nat → Prop} (h2 : ∀ k, With F g k → lo ≤ k) (h3 : lo ≤ w.heap.size) (h : Calls Tryd.prog f args w (TurnPost F g b sn' tl' l w)) : Calls Tryd.prog f args w (TurnL lo g b sn' tl' l w) := by
  refine h.mono ?_
  rintro e w' ⟨rfl, F', c', hv, hst⟩
  have hb := hst.below h2 h3
  exact ⟨rfl, ⟨F', c', hv, hb.2, Nat.le_trans h3 hb.1.size⟩, hb.1⟩
theorem append_L (lo : Nat) (w : World) (g b : Nat) (sn : Bs) (tl : List Bs) (l : Int) (h : LV lo w g b sn tl l) (r : Bs) (hf : (imageR sn (tl ++ [r])).length ≤ 20000) :
    Calls Tryd.prog 21 #[.pointer (some ⟨g, 0, none⟩), S r] w (TurnL lo g b sn (tl ++ [r]) l w) := by
  obtain ⟨F, c, h1, h2, h3⟩ := h
  exact turn_L h2 h3 (append_S F w g b sn tl c l h1 r hf)
theorem replace_L (lo : Nat) (w : World) (g b : Nat) (sn : Bs) (tl : List Bs) (l : Int) (h : LV lo w g b sn tl l) (sn' : Bs) (tv : Value) (tl' : List Bs) (ht : TailAt w tv tl') (hf : (imageR sn' tl').length ≤ 20000) :
    Calls Tryd.prog 22 #[.pointer (some ⟨g, 0, none⟩), S sn', tv] w (TurnL lo g b sn' tl' l w) := by
  obtain ⟨F, c, h1, h2, h3⟩ := h
  exact turn_L h2 h3 (replace_S F w g b sn tl c l h1 sn' tv tl' ht hf)
theorem contents_L (lo : Nat) (w : World) (b : Nat) (sn : Bs) (tl : List Bs) (l : Int) (h : LD lo w b sn tl l) :
    Calls Tryd.prog 18 #[.pointer (some ⟨b, 0, none⟩)] w fun e w' => e = .returned (S (trimR (cleanR sn tl))) ∧ Below w.heap.size w w' := by
  obtain ⟨F, c, h1, _⟩ := h
  exact contents_S F w b sn tl c l h1
theorem is_L (lo : Nat) (w : World) (g b : Nat) (sn : Bs) (tl : List Bs) (l : Int) (h : LV lo w g b sn tl l) (v1 v2 : Value) (h1 : TailAt w v1 tl) (h2 : TailAt w v2 tl) :
    Calls Tryd.prog 15 #[.pointer (some ⟨b, 0, none⟩), .pointer (some ⟨g, 0, none⟩), S sn, v1, .int .i64 0, .agg #[S sn, v2]] w fun e w' => e = .returned (.bool true) ∧ Below w.heap.size w w' := by
  obtain ⟨F, c, h, _⟩ := h
  exact is_S F w g b sn tl c l h v1 v2 h1 h2
theorem LV.size {lo : Nat} {w : World} {g b : Nat} {sn : Bs} {tl : List Bs} {l : Int} (h : LV lo w g b sn tl l) : lo ≤ w.heap.size := by
  obtain ⟨F, c, _, _, h⟩ := h
  exact h
theorem trim_ne (l : Bs) (x : UInt8) (hx : x ≠ 0) : trimR (l ++ [x]) = l ++ [x] := by
  unfold trimR
  rw [List.reverse_append, List.reverse_singleton, List.singleton_append, List.dropWhile_cons_of_neg (by simpa using hx)]
  simp
set_option maxHeartbeats 4000000 in
set_option maxRecDepth 100000 in
theorem sanity_11 (w : World) : Calls Tryd.prog 11 #[] w fun e w' => e = .returned (.bool true) ∧ Below w.heap.size w w' := by
  obtain ⟨Z, hZ⟩ : ∃ Z, Z = zerosR 64 := ⟨_, rfl⟩
  have hZl : Z.length = 64 := by rw [hZ, zeros_len]
  have t1 : trimR (cleanR [] [[97, 98]]) = Z ++ [0, 1, 2, 97, 98] := by
    rw [show cleanR [] [[97, 98]] = (Z ++ [0, 1, 2, 97]) ++ [98] from by rw [hZ]; simp [cleanR, imageR, frameR, numR_small], trim_ne _ _ (by decide)]; simp
  have t2 : trimR (cleanR [] [[97, 98], [99]]) = Z ++ [0, 1, 2, 97, 98, 1, 1, 99] := by
    rw [show cleanR [] [[97, 98], [99]] = (Z ++ [0, 1, 2, 97, 98, 1, 1]) ++ [99] from by rw [hZ]; simp [cleanR, imageR, frameR, numR_small], trim_ne _ _ (by decide)]; simp
  have t3 : trimR (cleanR [83] [[99]]) = Z ++ [1, 83, 1, 1, 99] := by
    rw [show cleanR [83] [[99]] = (Z ++ [1, 83, 1, 1]) ++ [99] from by rw [hZ]; simp [cleanR, imageR, frameR, numR_small], trim_ne _ _ (by decide)]; simp
  have T1 := Lib.hid t1
  have T2 := Lib.hid t2
  have T3 := Lib.hid t3
  have hmk := mk64
  rw [← hZ] at hmk
  clear hZ t1 t2 t3
  have s1 : ¬ 9223372036854775807 < Z.length + 5 := by omega
  have s2 : ¬ 9223372036854775807 < Z.length + 8 := by omega
  go_enter Tryd.func11, Tryd.ntmps11
  go_wp2_with fail
  ((with_reducible refine Calls.mono (new_L w.heap.size w (Nat.le_refl _)) ?_); rintro e w1 ⟨rfl, hd1, hb1⟩)
  have HD1 := Lib.hid hd1
  have HB1 := Lib.hid hb1
  clear hd1 hb1
  go_wp2_with fail
  ((with_reducible refine Calls.mono (open_L w.heap.size w1 w.heap.size [] [] 0 HD1.out) ?_); rintro e w2 ⟨g, ta, cap, rfl, hv2, _, hb2, _⟩)
  have HV2 := Lib.hid hv2
  have HB2 := Lib.hid (HB1.out.trans hb2)
  clear hv2 hb2
  generalize hbs : w.heap.size = b at *
  have HBS := Lib.hid hbs
  clear hbs
  obtain ⟨w3, hm3, hc3, hb3⟩ := hmk w2
  have hc3' := hc3 w3 (Below.refl _ _)
  have HV3 := Lib.hid (HV2.out.below hb3)
  have HB3 := Lib.hid (btr HB2.out hb3 HV2.out.size)
  clear hc3 hb3 hmk
  go_wp2_with fail
  ((with_reducible refine Calls.mono (append_L b _ g b [] [] 0 HV3.out [97, 98] (by simp [imageR, frameR, numR_small])) ?_); rintro e w4 ⟨rfl, hv4, hb4⟩)
  have HV4 : Hid (LV b w4 g b [] [[97, 98]] 0) := hv4
  have HB4 := Lib.hid (HB3.out.trans hb4)
  clear hv4 hb4
  go_wp2_with fail
  have hco := contents_L b w4 b [] [[97, 98]] 0 HV4.out.ld
  rw [T1.out] at hco
  ((with_reducible refine Calls.mono hco ?_); rintro e w5 ⟨rfl, hb5⟩)
  have HV5 := Lib.hid (HV4.out.below hb5)
  have HB5 := Lib.hid (btr HB4.out hb5 HV4.out.size)
  clear hb5 hco
  go_wp2_with fail
  ((with_reducible refine Calls.mono (append_L b _ g b [] [[97, 98]] 0 HV5.out [99] (by simp [imageR, frameR, numR_small])) ?_); rintro e w6 ⟨rfl, hv6, hb6⟩)
  have HV6 : Hid (LV b w6 g b [] [[97, 98], [99]] 0) := hv6
  have HB6 := Lib.hid (HB5.out.trans hb6)
  clear hv6 hb6
  go_wp2_with fail
  have hco := contents_L b w6 b [] [[97, 98], [99]] 0 HV6.out.ld
  rw [T2.out] at hco
  ((with_reducible refine Calls.mono hco ?_); rintro e w7 ⟨rfl, hb7⟩)
  have HV7 := Lib.hid (HV6.out.below hb7)
  have HB7 := Lib.hid (btr HB6.out hb7 HV6.out.size)
  clear hb7 hco
  go_wp2_with fail
  ((with_reducible refine Calls.mono HV7.out.many ?_); rintro e w8 ⟨rfl, hw⟩; have hw := hw.symm; subst hw)
  go_wp2_with fail
  have ha := alloc_below w7 (.cells #[S [99]] 9)
  have HV8 := Lib.hid (HV7.out.below ha)
  have HB8 := Lib.hid (btr HB7.out ha HV7.out.size)
  have htl : TailAt (w7.alloc (.cells #[S [99]] 9)) (.slice (some ⟨w7.heap.size, 0, none⟩) 1 1) [[99]] := ⟨_, _, rfl, fun _ => ⟨w7.heap.size, 0, rfl, Nat.zero_le _, by simp, fun j x hx => by
    match j, hx with
    | 0, hx => simp at hx; subst hx; exact World.cell?_alloc_new w7 _ _ 0⟩⟩
  generalize w7.alloc (.cells #[S [99]] 9) = w8 at *
  ((with_reducible refine Calls.mono (replace_L b _ g b _ _ 0 HV8.out [83] _ [[99]] htl (by simp [imageR, frameR, numR_small])) ?_); rintro e w9 ⟨rfl, hv9, hb9⟩)
  have HV9 := Lib.hid hv9
  have HB9 := Lib.hid (HB8.out.trans hb9)
  clear hv9 hb9 ha htl
  go_wp2_with fail
  have hco := contents_L b w9 b [83] [[99]] 0 HV9.out.ld
  rw [T3.out] at hco
  ((with_reducible refine Calls.mono hco ?_); rintro e w10 ⟨rfl, hb10⟩)
  have HV10 := Lib.hid (HV9.out.below hb10)
  have HB10 := Lib.hid (btr HB9.out hb10 HV9.out.size)
  clear hb10 hco
  go_wp2_with fail
  ((with_reducible refine Calls.mono HV10.out.many ?_); rintro e w11 ⟨rfl, hw⟩; have hw := hw.symm; subst hw)
  go_wp2_with fail
  go_ret
  rw [HBS.out]
  exact ⟨rfl, HB10.out⟩
end Go.Proofs.YtgdkdihedgiegaaDoor

namespace Go.Proofs.YtgdkdihedgiegaaDoor
open Go.RowKit

/-- A number modulo another, as the reference takes it. -/
def modR (x : Int) (n : Nat) : Nat := (x % (n : Int)).toNat
theorem modR_lt (x : Int) (n : Nat) (h : 0 < n) : modR x n < n := by
  unfold modR
  have h1 := Int.emod_nonneg x (show (n : Int) ≠ 0 by omega)
  have h2 := Int.emod_lt_of_pos x (show (0 : Int) < n by omega)
  omega
set_option maxHeartbeats 1000000 in
theorem mod_27 (x : Int) (n : Nat) (hn : 0 < n) (hb : n ≤ 1000000000) (w : World) :
    Calls Tryd.prog 27 #[.int .i64 x, .int .i64 n] w fun e w' => e = .returned (.int .i64 (modR x n)) ∧ w' = w := by
  obtain ⟨t, ht⟩ : ∃ t, t = x.tmod n := ⟨_, rfl⟩
  have h1 : t < n ∧ -(n : Int) < t := by
    have a1 := Int.tmod_lt_of_pos x (show (0 : Int) < n by omega)
    have a2 := Int.lt_tmod_of_pos x (show (0 : Int) < n by omega)
    omega
  obtain ⟨r, hr⟩ : ∃ r, r = modR x n := ⟨_, rfl⟩
  have hlt : r < n := by rw [hr]; exact modR_lt x n hn
  have h2 : (t + n).tmod n = (r : Int) := by
    have h3 : (r : Int) = x % n := by
      rw [hr]; unfold modR
      have := Int.emod_nonneg x (show (n : Int) ≠ 0 by omega)
      omega
    rw [Int.tmod_eq_emod_of_nonneg (by omega), h3, ht]
    rw [Int.add_emod_right]
    rw [Int.tmod_def]
    exact Int.sub_mul_emod_self_left x n _
  have h3 : IntKind.i64.wrap (t + n) = t + n := IntWalk.i64_in _ (by omega)
  have h4 : x.tmod n = t := ht.symm
  have h5 : ((n : Int) == 0) = false := by simp; omega
  rw [← hr]
  clear ht hr
  go_enter Tryd.func27, Tryd.ntmps27
  go_wp2_with fail
  go_ret
  exact ⟨rfl, rfl⟩
/-- The state behind an act. -/
def actR (sn : Bs) (tl : List Bs) (k : Nat) (text : Bs) (tail : List Bs) : Bs × List Bs := if k ≤ 2 then (sn, tl ++ [text]) else (text, tail)
set_option maxHeartbeats 1000000 in
set_option maxRecDepth 100000 in
theorem do_L (lo : Nat) (w : World) (g b : Nat) (sn : Bs) (tl : List Bs) (l : Int) (h : LV lo w g b sn tl l) (k : Nat) (hk : k ≤ 100) (text : Bs) (tv : Value) (tail : List Bs) (ht : TailAt w tv tail)
    (hf : (imageR (actR sn tl k text tail).1 (actR sn tl k text tail).2).length ≤ 20000) :
    Calls Tryd.prog 16 #[.pointer (some ⟨g, 0, none⟩), .agg #[.int .i64 k, S text, tv]] w (TurnL lo g b (actR sn tl k text tail).1 (actR sn tl k text tail).2 l w) := by
  obtain ⟨ta, cap, rfl, _⟩ := id ht
  have ha := alloc_below w (.cells #[.int .i64 k, S text, .slice ta tail.length cap] 34)
  have HV := Lib.hid (h.below ha)
  have HT := Lib.hid (ht.below ha)
  have HLO := Lib.hid h.size
  have HA := Lib.hid ha
  by_cases h2 : k ≤ 2
  · have hx : actR sn tl k text tail = (sn, tl ++ [text]) := by unfold actR; rw [if_pos h2]
    rw [hx] at hf ⊢
    have HF := Lib.hid hf
    clear h ht ha hx hf
    go_enter Tryd.func16, Tryd.ntmps16
    go_wp2_with fail
    ((with_reducible refine Calls.mono (append_L lo _ g b sn tl l HV.out text HF.out) ?_); rintro e w1 ⟨rfl, hv1, hb1⟩)
    have HV1 := Lib.hid hv1
    have HB1 := Lib.hid hb1
    clear hv1 hb1
    go_wp2_with fail
    go_ret
    exact ⟨rfl, HV1.out, (HA.out.mono HLO.out).trans HB1.out⟩
  · have hx : actR sn tl k text tail = (text, tail) := by unfold actR; rw [if_neg h2]
    rw [hx] at hf ⊢
    have HF := Lib.hid hf
    clear h ht ha hx hf
    go_enter Tryd.func16, Tryd.ntmps16
    go_wp2_with fail
    ((with_reducible refine Calls.mono (replace_L lo _ g b sn tl l HV.out text _ tail HT.out HF.out) ?_); rintro e w1 ⟨rfl, hv1, hb1⟩)
    have HV1 := Lib.hid hv1
    have HB1 := Lib.hid hb1
    clear hv1 hb1
    go_wp2_with fail
    go_ret
    exact ⟨rfl, HV1.out, (HA.out.mono HLO.out).trans HB1.out⟩
end Go.Proofs.YtgdkdihedgiegaaDoor

namespace Go.Proofs.YtgdkdihedgiegaaDoor
open Go.RowKit

theorem results_cell {fn : Func} {p : Tmp} {ty : TypeId} (h : fn.results = #[.cell p ty]) (tmps : Array Value) (P : Program) (w : World) :
    (results fn tmps).run P w = ((asAddr (tmps.getD p undef)).run P w).andThen fun a w₁ => (loadVar ty a).run P w₁ := by
  simp only [results, h]
  simp [Sem.run_bind]
set_option maxHeartbeats 1000000 in
set_option maxRecDepth 100000 in
theorem after_rep (w : World) (sn : Bs) (a1 : Option Addr) (n1 c1 : Nat) (k : Nat) (h1 : 2 < k) (h2 : k ≤ 4) (text : Bs) (a2 : Option Addr) (n2 c2 : Nat) :
    Calls Tryd.prog 17 #[.agg #[S sn, .slice a1 n1 c1], .agg #[.int .i64 k, S text, .slice a2 n2 c2]] w fun e w' => e = .returned (.agg #[S text, .slice a2 n2 c2]) ∧ Below w.heap.size w w' := by
  go_enter Tryd.func17, Tryd.ntmps17
  go_wp2_with fail
  try simp only [Exit.inBlock, Exit.then]
  refine bodyPost_ret (v := .agg #[S text, .slice a2 n2 c2]) (by rw [results_cell rfl]; go_simp) rfl ?_
  refine ⟨rfl, ?_⟩
  have ha := alloc_below w (.cells #[S sn, .slice a1 n1 c1] 32)
  have hb := btr ha (alloc_below _ (.cells #[.int .i64 k, S text, .slice a2 n2 c2] 34)) ha.size
  exact btr hb (alloc_below _ _) hb.size
end Go.Proofs.YtgdkdihedgiegaaDoor
