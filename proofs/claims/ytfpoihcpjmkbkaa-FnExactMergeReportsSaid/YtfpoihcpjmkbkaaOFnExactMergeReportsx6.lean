-- Written by a program of this session (the kit's printing program with additions of this session's own); Lean checks it.
import Derived.Test.YtfpoihcpjmkbkaaOFnExactMergeReportsx0
import Derived.Test.YtfpoihcpjmkbkaaOFnExactMergeReportsx1
import Derived.Test.YtfpoihcpjmkbkaaOFnExactMergeReportsx2
import Derived.Test.YtfpoihcpjmkbkaaOFnExactMergeReportsx3
import Derived.Test.YtfpoihcpjmkbkaaOFnExactMergeReportsx4
import Derived.Test.YtfpoihcpjmkbkaaOFnExactMergeReportsx5
namespace Go.Proofs.Ytfpoihcpjmkbkaa.OFnExactMergeReports
open Go.RowKit Go.Proofs.YtfpoihcpjmkbkaaW.PrintWords Go.Proofs.YtfpoihcpjmkbkaaW.PrintLast Go.Proofs.YtfpoihcpjmkbkaaW.PrintMore
attribute [local go_sem] max2_int min2_int max_two min_two max_three min_three max_four min_four   -- for this text's walks alone
set_option linter.unusedVariables false
set_option linter.unusedSimpArgs false

/-! ### laws_FnExactMergeReports: function 9 -/
def laws_FnExactMergeReports.j0 : Nat → Bool → List (S80) → List ByteArray → List (S80) → List ByteArray → List (S37) → List ByteArray → List (S37) → List ByteArray → Option (Bool)
 | 0, _, _, _, _, _, _, _, _, _ => none
 | k + 1, x63, x223000, x223001, x224000, x224001, x245000, x245001, x266000, x266001 => if x63 = true then (none) else ((laws_markReport.f k x266000 x266001 1).bind fun bt288 => ((laws_heldReport.f k bt288.2.1 bt288.2.2 1).bind fun t291 => (if t291 < 0 then (none) else (if t291 = bt288.1 then ((laws_toReport.f k x223000 x223001).bind fun bt292 => ((laws_toReport.f k x224000 x224001).bind fun bt298 => ((impl_MergeReports.f k bt292.1 bt292.2 bt298.1 bt298.2).bind fun bt304 => ((laws_eqReport.f k bt304.1 bt304.2 x245000 x245001).bind fun t311 => (if t311 = true then ((laws_heldReport.f k bt288.2.1 bt288.2.2 1).bind fun t312 => (if t312 < 0 then (none) else (if t312 = bt288.1 then (some true) else (none)))) else (none)))))) else (none)))))
def laws_FnExactMergeReports.f (k : Nat) (l0_0 : List (S80)) (l0_1 : List ByteArray) (l1_0 : List (S80)) (l1_1 : List ByteArray) : Option (Bool) := (laws_szReport.f k l0_0 l0_1 1048576).bind fun t224 => (if t224 < 0 then (some true) else ((laws_szReport.f k l1_0 l1_1 t224).bind fun t225 => (if t225 < 0 then (some true) else ((laws_toReport.f k l0_0 l0_1).bind fun bt226 => ((laws_toReport.f k l1_0 l1_1).bind fun bt232 => ((spec_MergeReports.f k bt226.1 bt226.2 bt232.1 bt232.2).bind fun bt238 => ((laws_toReport.f k l0_0 l0_1).bind fun bt245 => ((laws_toReport.f k l1_0 l1_1).bind fun bt252 => ((impl_MergeReports.f k bt245.1 bt245.2 bt252.1 bt252.2).bind fun bt259 => ((laws_eqReport.f k bt259.1 bt259.2 bt238.1 bt238.2).bind fun t266 => (if t266 = true then ((laws_toReport.f k l0_0 l0_1).bind fun bt267 => ((laws_eqReport.f k bt245.1 bt245.2 bt267.1 bt267.2).bind fun t273 => (if t273 = true then ((laws_toReport.f k l1_0 l1_1).bind fun bt274 => ((laws_eqReport.f k bt252.1 bt252.2 bt274.1 bt274.2).bind fun t280 => (if t280 = true then ((laws_markReport.f k bt245.1 bt245.2 1).bind fun bt281 => ((laws_markReport.f k bt252.1 bt252.2 bt281.1).bind fun bt284 => (if bt284.1 < 0 then (laws_FnExactMergeReports.j0 k true l0_0 l0_1 l1_0 l1_1 bt238.1 bt238.2 bt259.1 bt259.2) else ((laws_eqReport.f k bt259.1 bt259.2 bt238.1 bt238.2).bind fun t287 => (laws_FnExactMergeReports.j0 k (!t287) l0_0 l0_1 l1_0 l1_1 bt238.1 bt238.2 bt259.1 bt259.2))))) else (none)))) else (none)))) else (none))))))))))))
theorem laws_FnExactMergeReports.mono_l : ∀ k, (∀ y0 y1 y2 y3 y4 y5 y6 y7 y8, LeO (laws_FnExactMergeReports.j0 k y0 y1 y2 y3 y4 y5 y6 y7 y8) (laws_FnExactMergeReports.j0 (k + 1) y0 y1 y2 y3 y4 y5 y6 y7 y8))
 | 0 => fun _ _ _ _ _ _ _ _ _ r h => by simp [laws_FnExactMergeReports.j0] at h
 | k + 1 => by
  have ih0 := laws_FnExactMergeReports.mono_l k
  ·intro y0 y1 y2 y3 y4 y5 y6 y7 y8
   unfold laws_FnExactMergeReports.j0
   repeat' first
   | (with_reducible exact ih0 _ _ _ _ _ _ _ _ _)
   | (with_reducible exact impl_MergeReports.mono _ _ _ _ _)
   | (with_reducible exact laws_eqReport.mono _ _ _ _ _)
   | (with_reducible exact laws_heldReport.mono _ _ _ _)
   | (with_reducible exact laws_markReport.mono _ _ _ _)
   | (with_reducible exact laws_szReport.mono _ _ _ _)
   | (with_reducible exact laws_toReport.mono _ _ _)
   | (with_reducible exact spec_MergeReports.mono _ _ _ _ _)
   | (with_reducible exact LeO.refl _)
   | (with_reducible exact LeO.none _)
   | (with_reducible refine LeO.ite ?_ ?_)
   | (with_reducible refine LeO.bind ?_ (fun _ => ?_))
   | exact ih0 _ _ _ _ _ _ _ _ _
   | exact impl_MergeReports.mono _ _ _ _ _
   | exact laws_eqReport.mono _ _ _ _ _
   | exact laws_heldReport.mono _ _ _ _
   | exact laws_markReport.mono _ _ _ _
   | exact laws_szReport.mono _ _ _ _
   | exact laws_toReport.mono _ _ _
   | exact spec_MergeReports.mono _ _ _ _ _
   | exact LeO.none _
   | refine LeO.ite ?_ ?_
   | refine LeO.bind ?_ (fun _ => ?_)
theorem laws_FnExactMergeReports.mono : ∀ a0 a1 a2 a3 k, LeO (laws_FnExactMergeReports.f k a0 a1 a2 a3) (laws_FnExactMergeReports.f (k + 1) a0 a1 a2 a3) := by
 intro a0 a1 a2 a3 k
 have ih0 := laws_FnExactMergeReports.mono_l k
 unfold laws_FnExactMergeReports.f
 repeat' first
   | (with_reducible exact ih0 _ _ _ _ _ _ _ _ _)
   | (with_reducible exact impl_MergeReports.mono _ _ _ _ _)
   | (with_reducible exact laws_eqReport.mono _ _ _ _ _)
   | (with_reducible exact laws_heldReport.mono _ _ _ _)
   | (with_reducible exact laws_markReport.mono _ _ _ _)
   | (with_reducible exact laws_szReport.mono _ _ _ _)
   | (with_reducible exact laws_toReport.mono _ _ _)
   | (with_reducible exact spec_MergeReports.mono _ _ _ _ _)
   | (with_reducible exact LeO.refl _)
   | (with_reducible exact LeO.none _)
   | (with_reducible refine LeO.ite ?_ ?_)
   | (with_reducible refine LeO.bind ?_ (fun _ => ?_))
   | exact ih0 _ _ _ _ _ _ _ _ _
   | exact impl_MergeReports.mono _ _ _ _ _
   | exact laws_eqReport.mono _ _ _ _ _
   | exact laws_heldReport.mono _ _ _ _
   | exact laws_markReport.mono _ _ _ _
   | exact laws_szReport.mono _ _ _ _
   | exact laws_toReport.mono _ _ _
   | exact spec_MergeReports.mono _ _ _ _ _
   | exact LeO.none _
   | refine LeO.ite ?_ ?_
   | refine LeO.bind ?_ (fun _ => ?_)
/-- The code behind n steps of a row of them. -/
noncomputable def laws_FnExactMergeReports.tailAt : Nat → Code → Code
 | 0, c => c
 | n + 1, .seq _ c => tailAt n c
 | _ + 1, c => c
noncomputable def laws_FnExactMergeReports.fst_ : Code → Code
 | .seq a _ => a
 | c => c
noncomputable def laws_FnExactMergeReports.body9 : Code := match Try.f9.body with
 | some c => c
 | none => .skip
noncomputable def laws_FnExactMergeReports.code23 : Code := laws_FnExactMergeReports.tailAt 17 laws_FnExactMergeReports.body9
noncomputable def laws_FnExactMergeReports.cond21 : Code := laws_FnExactMergeReports.tailAt 1 (laws_FnExactMergeReports.fst_ (laws_FnExactMergeReports.tailAt 16 laws_FnExactMergeReports.body9))
set_option maxHeartbeats 8000000 in
set_option maxRecDepth 100000 in
theorem laws_FnExactMergeReports.part2 (k : Nat) (A0_0 : Option Addr) (c0_0 : Nat) (l0_0 : List (S80)) (A0_1 : Option Addr) (c0_1 : Nat) (l0_1 : List ByteArray) (A1_0 : Option Addr) (c1_0 : Nat) (l1_0 : List (S80)) (A1_1 : Option Addr) (c1_1 : Nat) (l1_1 : List ByteArray) (r : Bool) (w : World) (wc : World) (HR0_0 : Aside0 (Kd.C k80 w A0_0 l0_0.length l0_0)) (HC0_0 : Aside0 (l0_0.length ≤ c0_0)) (HR0_1 : Aside0 (Kd.C Kd.string w A0_1 l0_1.length l0_1)) (HC0_1 : Aside0 (l0_1.length ≤ c0_1)) (HR1_0 : Aside0 (Kd.C k80 w A1_0 l1_0.length l1_0)) (HC1_0 : Aside0 (l1_0.length ≤ c1_0)) (HR1_1 : Aside0 (Kd.C Kd.string w A1_1 l1_1.length l1_1)) (HC1_1 : Aside0 (l1_1.length ≤ c1_1)) (t225 t284 : Int) (t238 t245 t252 t259 t282 t285 : List (S37)) (t241 t248 t255 t262 t283 t286 : List ByteArray) (gb222 gb223 gb244 gb251 gb258 gb265 : Nat) (GE222 : Aside0 (w.heap.size ≤ gb222)) (GE223 : Aside0 (w.heap.size ≤ gb223)) (GE244 : Aside0 (w.heap.size ≤ gb244)) (GE251 : Aside0 (w.heap.size ≤ gb251)) (GE258 : Aside0 (w.heap.size ≤ gb258)) (GE265 : Aside0 (w.heap.size ≤ gb265)) (GW222 : Aside0 (w.heap.size ≤ gb222)) (GW223 : Aside0 (w.heap.size ≤ gb223)) (GW244 : Aside0 (w.heap.size ≤ gb244)) (GW251 : Aside0 (w.heap.size ≤ gb251)) (GW258 : Aside0 (w.heap.size ≤ gb258)) (GW265 : Aside0 (w.heap.size ≤ gb265)) (NB222_223 : Aside0 (gb222 ≠ gb223)) (NB222_244 : Aside0 (gb222 ≠ gb244)) (NB222_251 : Aside0 (gb222 ≠ gb251)) (NB222_258 : Aside0 (gb222 ≠ gb258)) (NB222_265 : Aside0 (gb222 ≠ gb265)) (NB223_222 : Aside0 (gb223 ≠ gb222)) (NB223_244 : Aside0 (gb223 ≠ gb244)) (NB223_251 : Aside0 (gb223 ≠ gb251)) (NB223_258 : Aside0 (gb223 ≠ gb258)) (NB223_265 : Aside0 (gb223 ≠ gb265)) (NB244_222 : Aside0 (gb244 ≠ gb222)) (NB244_223 : Aside0 (gb244 ≠ gb223)) (NB244_251 : Aside0 (gb244 ≠ gb251)) (NB244_258 : Aside0 (gb244 ≠ gb258)) (NB244_265 : Aside0 (gb244 ≠ gb265)) (NB251_222 : Aside0 (gb251 ≠ gb222)) (NB251_223 : Aside0 (gb251 ≠ gb223)) (NB251_244 : Aside0 (gb251 ≠ gb244)) (NB251_258 : Aside0 (gb251 ≠ gb258)) (NB251_265 : Aside0 (gb251 ≠ gb265)) (NB258_222 : Aside0 (gb258 ≠ gb222)) (NB258_223 : Aside0 (gb258 ≠ gb223)) (NB258_244 : Aside0 (gb258 ≠ gb244)) (NB258_251 : Aside0 (gb258 ≠ gb251)) (NB258_265 : Aside0 (gb258 ≠ gb265)) (NB265_222 : Aside0 (gb265 ≠ gb222)) (NB265_223 : Aside0 (gb265 ≠ gb223)) (NB265_244 : Aside0 (gb265 ≠ gb244)) (NB265_251 : Aside0 (gb265 ≠ gb251)) (NB265_258 : Aside0 (gb265 ≠ gb258)) (Ao53 Ao55 Ao61 Ao66 Ao71 Ao77 Ao81 Ao88 : Option Addr) (co53 co55 co61 co66 co71 co77 co81 co88 : Nat) (u14 u15 u16 u17 u18 u19 u20 u21 u22 u23 u24 u25 u26 u27 u28 u29 u30 u31 u32 u33 u34 u35 u36 u37 u38 u39 u40 u41 u42 u43 u44 u45 u46 u47 u48 u49 u50 u51 u52 u53 u54 u55 u56 u57 u58 u59 u60 u61 u62 u63 u64 u65 u66 u67 u68 u69 u70 u71 u72 u73 u74 u75 u76 u77 u78 u79 u80 u81 u82 u83 u84 u85 u86 u87 u88 u89 u90 u91 : Value)
  (Q_ : Exit → Act → World → Prop) (hQ : Q_ = bodyPost Try.prog Try.f9 fun e w' => e = .returned (.bool r) ∧ Below w.heap.size w w')
  (K1_ : Act → World → Prop) (hK1 : ∀ a_ w_, Code.wp Try.prog laws_FnExactMergeReports.code23 Q_ a_ w_ → K1_ a_ w_) (K0_ : Act → World → Prop) (hK0 : ∀ a_ w_, Code.wp Try.prog laws_FnExactMergeReports.cond21 (Exit.then K1_ Q_) a_ w_ → K0_ a_ w_)
  (hcut : ∃ (kq : Nat) (x63_34 : Bool), u63 = .bool x63_34 ∧ Aside0 (laws_FnExactMergeReports.j0 kq x63_34 l0_0 l0_1 l1_0 l1_1 t238 t241 t259 t262 = some r) ∧ Aside0 (kq ≤ k) ∧ Aside0 (Kd.R k37 37 wc w.heap.size (fun k_ => some k_ ≠ ((.slice Ao61 t245.length co61) : Value).ownBlock ∧ some k_ ≠ ((.slice Ao71 t252.length co71) : Value).ownBlock ∧ some k_ ≠ ((.slice Ao81 t259.length co81) : Value).ownBlock) (.slice Ao53 t238.length co53) t238) ∧ Aside0 (Kd.R Kd.string 9 wc w.heap.size (fun k_ => some k_ ≠ ((.slice Ao66 t248.length co66) : Value).ownBlock ∧ some k_ ≠ ((.slice Ao77 t255.length co77) : Value).ownBlock ∧ some k_ ≠ ((.slice Ao88 t262.length co88) : Value).ownBlock) (.slice Ao55 t241.length co55) t241) ∧ Aside0 (Kd.R k37 37 wc w.heap.size (fun k_ => some k_ ≠ ((.slice Ao53 t238.length co53) : Value).ownBlock ∧ some k_ ≠ ((.slice Ao71 t252.length co71) : Value).ownBlock ∧ some k_ ≠ ((.slice Ao81 t259.length co81) : Value).ownBlock) (.slice Ao61 t245.length co61) t282) ∧ Aside0 (Kd.R Kd.string 9 wc w.heap.size (fun k_ => some k_ ≠ ((.slice Ao55 t241.length co55) : Value).ownBlock ∧ some k_ ≠ ((.slice Ao77 t255.length co77) : Value).ownBlock ∧ some k_ ≠ ((.slice Ao88 t262.length co88) : Value).ownBlock) (.slice Ao66 t248.length co66) t283) ∧ Aside0 (Kd.R k37 37 wc w.heap.size (fun k_ => some k_ ≠ ((.slice Ao53 t238.length co53) : Value).ownBlock ∧ some k_ ≠ ((.slice Ao61 t245.length co61) : Value).ownBlock ∧ some k_ ≠ ((.slice Ao81 t259.length co81) : Value).ownBlock) (.slice Ao71 t252.length co71) t285) ∧ Aside0 (Kd.R Kd.string 9 wc w.heap.size (fun k_ => some k_ ≠ ((.slice Ao55 t241.length co55) : Value).ownBlock ∧ some k_ ≠ ((.slice Ao66 t248.length co66) : Value).ownBlock ∧ some k_ ≠ ((.slice Ao88 t262.length co88) : Value).ownBlock) (.slice Ao77 t255.length co77) t286) ∧ Aside0 (Kd.R k37 37 wc w.heap.size (fun k_ => some k_ ≠ ((.slice Ao53 t238.length co53) : Value).ownBlock ∧ some k_ ≠ ((.slice Ao61 t245.length co61) : Value).ownBlock ∧ some k_ ≠ ((.slice Ao71 t252.length co71) : Value).ownBlock) (.slice Ao81 t259.length co81) t259) ∧ Aside0 (Kd.R Kd.string 9 wc w.heap.size (fun k_ => some k_ ≠ ((.slice Ao55 t241.length co55) : Value).ownBlock ∧ some k_ ≠ ((.slice Ao66 t248.length co66) : Value).ownBlock ∧ some k_ ≠ ((.slice Ao77 t255.length co77) : Value).ownBlock) (.slice Ao88 t262.length co88) t262) ∧ Aside0 (wc.heap[gb222]? = some (.cells #[(.slice A0_0 l0_0.length c0_0), (.slice A0_1 l0_1.length c0_1)] 41 (0, 0))) ∧ Aside0 (wc.heap[gb223]? = some (.cells #[(.slice A1_0 l1_0.length c1_0), (.slice A1_1 l1_1.length c1_1)] 41 (0, 0))) ∧ Aside0 (wc.heap[gb244]? = some (.cells #[(.slice Ao53 t238.length co53), (.slice Ao55 t241.length co55)] 26 (0, 0))) ∧ Aside0 (wc.heap[gb251]? = some (.cells #[(.slice Ao61 t245.length co61), (.slice Ao66 t248.length co66)] 26 (0, 0))) ∧ Aside0 (wc.heap[gb258]? = some (.cells #[(.slice Ao71 t252.length co71), (.slice Ao77 t255.length co77)] 26 (0, 0))) ∧ Aside0 (wc.heap[gb265]? = some (.cells #[(.slice Ao81 t259.length co81), (.slice Ao88 t262.length co88)] 26 (0, 0))) ∧ Aside0 (Below w.heap.size w wc)) : K0_ { tmps := #[Value.agg #[Value.slice A0_0 l0_0.length c0_0, Value.slice A0_1 l0_1.length c0_1], Value.agg #[Value.slice A1_0 l1_0.length c1_0, Value.slice A1_1 l1_1.length c1_1], Value.pointer (some { block := gb222, off := 0 }), Value.pointer (some { block := gb223, off := 0 }), Value.bool false, Value.int IntKind.i64 t225, Value.pointer (some { block := gb244, off := 0 }), Value.pointer (some { block := gb251, off := 0 }), Value.pointer (some { block := gb258, off := 0 }), Value.pointer (some { block := gb265, off := 0 }), Value.int IntKind.i64 t284, undef, undef, undef, u14, u15, u16, u17, u18, u19, u20, u21, u22, u23, u24, u25, u26, u27, u28, u29, u30, u31, u32, u33, u34, u35, u36, u37, u38, u39, u40, u41, u42, u43, u44, u45, u46, u47, u48, u49, u50, u51, u52, u53, u54, u55, u56, u57, u58, u59, u60, u61, u62, u63, u64, u65, u66, u67, u68, u69, u70, u71, u72, u73, u74, u75, u76, u77, u78, u79, u80, u81, u82, u83, u84, u85, u86, u87, u88, u89, u90, u91], defers := [] } wc := by
 have hu41 := Try.underlying41
 have hu26 := Try.underlying26
 obtain ⟨c1_, hc1_⟩ : ∃ c_, c_ = laws_FnExactMergeReports.code23 := ⟨_, rfl⟩
 rw [← hc1_] at hK1
 simp only [laws_FnExactMergeReports.code23, laws_FnExactMergeReports.body9, Try.f9, laws_FnExactMergeReports.tailAt] at hc1_
 subst hc1_
 obtain ⟨c0_, hc0_⟩ : ∃ c_, c_ = laws_FnExactMergeReports.cond21 := ⟨_, rfl⟩
 rw [← hc0_] at hK0
 simp only [laws_FnExactMergeReports.cond21, laws_FnExactMergeReports.body9, Try.f9, laws_FnExactMergeReports.tailAt, laws_FnExactMergeReports.fst_] at hc0_
 subst hc0_
 subst hQ
 have hnb222_223 := NB222_223.out
 have hnb222_244 := NB222_244.out
 have hnb222_251 := NB222_251.out
 have hnb222_258 := NB222_258.out
 have hnb222_265 := NB222_265.out
 have hnb223_222 := NB223_222.out
 have hnb223_244 := NB223_244.out
 have hnb223_251 := NB223_251.out
 have hnb223_258 := NB223_258.out
 have hnb223_265 := NB223_265.out
 have hnb244_222 := NB244_222.out
 have hnb244_223 := NB244_223.out
 have hnb244_251 := NB244_251.out
 have hnb244_258 := NB244_258.out
 have hnb244_265 := NB244_265.out
 have hnb251_222 := NB251_222.out
 have hnb251_223 := NB251_223.out
 have hnb251_244 := NB251_244.out
 have hnb251_258 := NB251_258.out
 have hnb251_265 := NB251_265.out
 have hnb258_222 := NB258_222.out
 have hnb258_223 := NB258_223.out
 have hnb258_244 := NB258_244.out
 have hnb258_251 := NB258_251.out
 have hnb258_265 := NB258_265.out
 have hnb265_222 := NB265_222.out
 have hnb265_223 := NB265_223.out
 have hnb265_244 := NB265_244.out
 have hnb265_251 := NB265_251.out
 have hnb265_258 := NB265_258.out
 obtain ⟨kq, x63_34, rfl, HA, HJ34, HO_245000, HO_245001, HO_252000, HO_252001, HO_259000, HO_259001, HO_266000, HO_266001, BK222, BK223, BK244, BK251, BK258, BK265, HB⟩ := hcut
 have hl252000_34 := (Kd.R_reads' HO_252000.out).1
 rw [hl252000_34] at HO_252000
 (try simp only [hl252000_34])
 (try simp only [hl252000_34] at BK222)
 (try simp only [hl252000_34] at BK223)
 (try simp only [hl252000_34] at BK244)
 (try simp only [hl252000_34] at BK251)
 (try simp only [hl252000_34] at BK258)
 (try simp only [hl252000_34] at BK265)
 (try simp only [hl252000_34] at HO_245000)
 (try simp only [hl252000_34] at HO_245001)
 (try simp only [hl252000_34] at HO_252001)
 (try simp only [hl252000_34] at HO_259000)
 (try simp only [hl252000_34] at HO_259001)
 (try simp only [hl252000_34] at HO_266000)
 (try simp only [hl252000_34] at HO_266001)
 have hl252001_34 := (Kd.R_reads' HO_252001.out).1
 rw [hl252001_34] at HO_252001
 (try simp only [hl252001_34])
 (try simp only [hl252001_34] at BK222)
 (try simp only [hl252001_34] at BK223)
 (try simp only [hl252001_34] at BK244)
 (try simp only [hl252001_34] at BK251)
 (try simp only [hl252001_34] at BK258)
 (try simp only [hl252001_34] at BK265)
 (try simp only [hl252001_34] at HO_245000)
 (try simp only [hl252001_34] at HO_245001)
 (try simp only [hl252001_34] at HO_252000)
 (try simp only [hl252001_34] at HO_259000)
 (try simp only [hl252001_34] at HO_259001)
 (try simp only [hl252001_34] at HO_266000)
 (try simp only [hl252001_34] at HO_266001)
 have hl259000_34 := (Kd.R_reads' HO_259000.out).1
 rw [hl259000_34] at HO_259000
 (try simp only [hl259000_34])
 (try simp only [hl259000_34] at BK222)
 (try simp only [hl259000_34] at BK223)
 (try simp only [hl259000_34] at BK244)
 (try simp only [hl259000_34] at BK251)
 (try simp only [hl259000_34] at BK258)
 (try simp only [hl259000_34] at BK265)
 (try simp only [hl259000_34] at HO_245000)
 (try simp only [hl259000_34] at HO_245001)
 (try simp only [hl259000_34] at HO_252000)
 (try simp only [hl259000_34] at HO_252001)
 (try simp only [hl259000_34] at HO_259001)
 (try simp only [hl259000_34] at HO_266000)
 (try simp only [hl259000_34] at HO_266001)
 have hl259001_34 := (Kd.R_reads' HO_259001.out).1
 rw [hl259001_34] at HO_259001
 (try simp only [hl259001_34])
 (try simp only [hl259001_34] at BK222)
 (try simp only [hl259001_34] at BK223)
 (try simp only [hl259001_34] at BK244)
 (try simp only [hl259001_34] at BK251)
 (try simp only [hl259001_34] at BK258)
 (try simp only [hl259001_34] at BK265)
 (try simp only [hl259001_34] at HO_245000)
 (try simp only [hl259001_34] at HO_245001)
 (try simp only [hl259001_34] at HO_252000)
 (try simp only [hl259001_34] at HO_252001)
 (try simp only [hl259001_34] at HO_259000)
 (try simp only [hl259001_34] at HO_266000)
 (try simp only [hl259001_34] at HO_266001)
 cases kq with
 | zero => exact absurd HA.out (by simp [laws_FnExactMergeReports.j0])
 | succ kj34 =>
  have H := HA.out
  clear HA
  simp only [laws_FnExactMergeReports.j0] at H
  by_cases c119 : x63_34 = true
  ·subst c119
   have H1 : (none) = some r := by rw [if_pos rfl] at H; exact H
   clear H
   have H := H1
   clear H1
   exact absurd H (by simp)
  ·replace c119 := Bool.eq_false_iff.mpr c119
   subst c119
   have H1 : ((laws_markReport.f kj34 t259 t262 1).bind fun bt288 => ((laws_heldReport.f kj34 bt288.2.1 bt288.2.2 1).bind fun t291 => (if t291 < 0 then (none) else (if t291 = bt288.1 then ((laws_toReport.f kj34 l0_0 l0_1).bind fun bt292 => ((laws_toReport.f kj34 l1_0 l1_1).bind fun bt298 => ((impl_MergeReports.f kj34 bt292.1 bt292.2 bt298.1 bt298.2).bind fun bt304 => ((laws_eqReport.f kj34 bt304.1 bt304.2 t238 t241).bind fun t311 => (if t311 = true then ((laws_heldReport.f kj34 bt288.2.1 bt288.2.2 1).bind fun t312 => (if t312 < 0 then (none) else (if t312 = bt288.1 then (some true) else (none)))) else (none)))))) else (none))))) = some r := by rw [if_neg (show ¬ (false = true) by decide)] at H; exact H
   clear H
   have H := H1
   clear H1
   replace H := Option.bind_eq_some_iff.mp H
   obtain ⟨⟨t288, t289, t290⟩, A1200, H⟩ := H
   replace H : ((laws_heldReport.f kj34 t289 t290 1).bind fun t291 => (if t291 < 0 then (none) else (if t291 = t288 then ((laws_toReport.f kj34 l0_0 l0_1).bind fun bt292 => ((laws_toReport.f kj34 l1_0 l1_1).bind fun bt298 => ((impl_MergeReports.f kj34 bt292.1 bt292.2 bt298.1 bt298.2).bind fun bt304 => ((laws_eqReport.f kj34 bt304.1 bt304.2 t238 t241).bind fun t311 => (if t311 = true then ((laws_heldReport.f kj34 t289 t290 1).bind fun t312 => (if t312 < 0 then (none) else (if t312 = t288 then (some true) else (none)))) else (none)))))) else (none)))) = some r := H
   have A120 := ak A1200
   clear A1200
   replace H := Option.bind_eq_some_iff.mp H
   obtain ⟨t291, A1210, H⟩ := H
   replace H : (if t291 < 0 then (none) else (if t291 = t288 then ((laws_toReport.f kj34 l0_0 l0_1).bind fun bt292 => ((laws_toReport.f kj34 l1_0 l1_1).bind fun bt298 => ((impl_MergeReports.f kj34 bt292.1 bt292.2 bt298.1 bt298.2).bind fun bt304 => ((laws_eqReport.f kj34 bt304.1 bt304.2 t238 t241).bind fun t311 => (if t311 = true then ((laws_heldReport.f kj34 t289 t290 1).bind fun t312 => (if t312 < 0 then (none) else (if t312 = t288 then (some true) else (none)))) else (none)))))) else (none))) = some r := H
   have A121 := ak A1210
   clear A1210
   by_cases c122 : t291 < 0
   ·rw [if_pos c122] at H
    exact absurd H (by simp)
   ·rw [if_neg c122] at H
    have c122b0 : decide (t291 < 0) = false := decide_eq_false c122
    clear c122
    by_cases c123 : t291 = t288
    ·rw [if_pos c123] at H
     have c123b0 : (t291 == t288) = true := beq_iff_eq.mpr c123
     have c123b1 : (t291 != t288) = false := bne_eq_false_iff_eq.mpr c123
     clear c123
     replace H := Option.bind_eq_some_iff.mp H
     obtain ⟨⟨t292, t295⟩, A1240, H⟩ := H
     replace H : ((laws_toReport.f kj34 l1_0 l1_1).bind fun bt298 => ((impl_MergeReports.f kj34 t292 t295 bt298.1 bt298.2).bind fun bt304 => ((laws_eqReport.f kj34 bt304.1 bt304.2 t238 t241).bind fun t311 => (if t311 = true then ((laws_heldReport.f kj34 t289 t290 1).bind fun t312 => (if t312 < 0 then (none) else (if t312 = t288 then (some true) else (none)))) else (none))))) = some r := H
     have A124 := ak A1240
     clear A1240
     replace H := Option.bind_eq_some_iff.mp H
     obtain ⟨⟨t298, t301⟩, A1250, H⟩ := H
     replace H : ((impl_MergeReports.f kj34 t292 t295 t298 t301).bind fun bt304 => ((laws_eqReport.f kj34 bt304.1 bt304.2 t238 t241).bind fun t311 => (if t311 = true then ((laws_heldReport.f kj34 t289 t290 1).bind fun t312 => (if t312 < 0 then (none) else (if t312 = t288 then (some true) else (none)))) else (none)))) = some r := H
     have A125 := ak A1250
     clear A1250
     replace H := Option.bind_eq_some_iff.mp H
     obtain ⟨⟨t304, t307⟩, A1260, H⟩ := H
     replace H : ((laws_eqReport.f kj34 t304 t307 t238 t241).bind fun t311 => (if t311 = true then ((laws_heldReport.f kj34 t289 t290 1).bind fun t312 => (if t312 < 0 then (none) else (if t312 = t288 then (some true) else (none)))) else (none))) = some r := H
     have A126 := ak A1260
     clear A1260
     replace H := Option.bind_eq_some_iff.mp H
     obtain ⟨t311, A1270, H⟩ := H
     replace H : (if t311 = true then ((laws_heldReport.f kj34 t289 t290 1).bind fun t312 => (if t312 < 0 then (none) else (if t312 = t288 then (some true) else (none)))) else (none)) = some r := H
     have A127 := ak A1270
     clear A1270
     by_cases c128 : t311 = true
     ·subst c128
      have H1 : ((laws_heldReport.f kj34 t289 t290 1).bind fun t312 => (if t312 < 0 then (none) else (if t312 = t288 then (some true) else (none)))) = some r := by rw [if_pos rfl] at H; exact H
      clear H
      have H := H1
      clear H1
      replace H := Option.bind_eq_some_iff.mp H
      obtain ⟨t312, A1290, H⟩ := H
      replace H : (if t312 < 0 then (none) else (if t312 = t288 then (some true) else (none))) = some r := H
      have A129 := ak A1290
      clear A1290
      by_cases c130 : t312 < 0
      ·rw [if_pos c130] at H
       exact absurd H (by simp)
      ·rw [if_neg c130] at H
       have c130b0 : decide (t312 < 0) = false := decide_eq_false c130
       clear c130
       by_cases c131 : t312 = t288
       ·rw [if_pos c131] at H
        have c131b0 : (t312 == t288) = true := beq_iff_eq.mpr c131
        have c131b1 : (t312 != t288) = false := bne_eq_false_iff_eq.mpr c131
        clear c131
        obtain rfl := Option.some.inj H
        have hnb132 := NB265_222.out
        have hnc132 := NB222_265.out
        have hnb133 := NB265_223.out
        have hnc133 := NB223_265.out
        have hnb134 := NB265_244.out
        have hnc134 := NB244_265.out
        have hnb135 := NB265_251.out
        have hnc135 := NB251_265.out
        have hnb136 := NB265_258.out
        have hnc136 := NB258_265.out
        have hcz137_0 : wc.cell? ⟨gb265, 0, none⟩ = some (.slice Ao81 t259.length co81) := (blk_cell BK265.out 0).trans rfl
        have hcz137_1 : wc.cell? ⟨gb265, 1, none⟩ = some (.slice Ao88 t262.length co88) := (blk_cell BK265.out 1).trans rfl
        have hfz137_0 := blk_frozen BK265.out 0
        have hfz137_1 := blk_frozen BK265.out 1
        try go_wp2_with (first | ((with_reducible refine gate_callee (f := 31) rfl ?_); refine goesL_ (some 66) rfl rfl Try.func31 (by kernel_rfl) rfl #[.agg #[.slice Ao81 t259.length co81, .slice Ao88 t262.length co88], .int .i64 1] rfl (by (try simp only [List.map_toArray, List.map_cons, List.map_nil]); first | done | rfl | (simp only [List.length_drop, List.length_take]; rfl)) ?_; (with_reducible refine (laws_markReport.calls kj34 (fun k_ => some k_ = (.slice Ao81 t259.length co81 : Value).ownBlock) (.slice Ao81 t259.length co81) t259 (fun k_ => some k_ = (.slice Ao88 t262.length co88 : Value).ownBlock) (.slice Ao88 t262.length co88) t262 1 t288 t289 t290 w _ ?side1 ?side2 ?side3 A120.out).mono ?_); (case side1 => repeat (first | (with_reducible first | exact HB.out | apply below_alloc | apply pw_below_drewN | apply below_drew1 | refine below_set ?_ GE222.out | refine below_set ?_ GE223.out | refine below_set ?_ GE244.out | refine below_set ?_ GE251.out | refine below_set ?_ GE258.out | refine below_set ?_ GE265.out) | exact HB.out)); (case side2 => exact Kd.R_tight rfl HO_266000.out); (case side3 => exact Kd.R_tight rfl HO_266001.out); rintro e w138 ⟨rfl, hy0, hy1, hb, hkp⟩; refine ⟨_, rfl, ?_⟩; have n0_ := ak (Kd.R_mono (ok' := fun k_ => some k_ ≠ (.slice Ao61 t282.length co61 : Value).ownBlock ∧ some k_ ≠ (.slice Ao71 t285.length co71 : Value).ownBlock ∧ some k_ ≠ (.slice Ao81 t259.length co81 : Value).ownBlock) (Kd.R_keptB ((Kd.R_apart' HO_245000.out (Kd.R_typed HO_266001.out) (by decide))) hkp (fun k_ hk_ hs_ => Or.elim hs_ (fun e_ => refute hk_ e_) (fun e_ => (hk_.2) e_))) (fun k_ hk_ => ⟨(gives hk_), (gives hk_), (gives hk_)⟩)); have n1_ := ak (Kd.R_mono (ok' := fun k_ => some k_ ≠ (.slice Ao66 t283.length co66 : Value).ownBlock ∧ some k_ ≠ (.slice Ao77 t286.length co77 : Value).ownBlock ∧ some k_ ≠ (.slice Ao88 t262.length co88 : Value).ownBlock) (Kd.R_keptB ((Kd.R_apart' HO_245001.out (Kd.R_typed HO_266000.out) (by decide))) hkp (fun k_ hk_ hs_ => Or.elim hs_ (fun e_ => (hk_.2) e_) (fun e_ => refute hk_ e_))) (fun k_ hk_ => ⟨(gives hk_), (gives hk_), (gives hk_)⟩)); have n2_ := ak (Kd.R_mono (ok' := fun k_ => some k_ ≠ (.slice Ao53 t238.length co53 : Value).ownBlock ∧ some k_ ≠ (.slice Ao71 t285.length co71 : Value).ownBlock ∧ some k_ ≠ (.slice Ao81 t259.length co81 : Value).ownBlock) (Kd.R_keptB ((Kd.R_apart' HO_252000.out (Kd.R_typed HO_266001.out) (by decide))) hkp (fun k_ hk_ hs_ => Or.elim hs_ (fun e_ => refute hk_ e_) (fun e_ => (hk_.2) e_))) (fun k_ hk_ => ⟨(gives hk_), (gives hk_), (gives hk_)⟩)); have n3_ := ak (Kd.R_mono (ok' := fun k_ => some k_ ≠ (.slice Ao55 t241.length co55 : Value).ownBlock ∧ some k_ ≠ (.slice Ao77 t286.length co77 : Value).ownBlock ∧ some k_ ≠ (.slice Ao88 t262.length co88 : Value).ownBlock) (Kd.R_keptB ((Kd.R_apart' HO_252001.out (Kd.R_typed HO_266000.out) (by decide))) hkp (fun k_ hk_ hs_ => Or.elim hs_ (fun e_ => (hk_.2) e_) (fun e_ => refute hk_ e_))) (fun k_ hk_ => ⟨(gives hk_), (gives hk_), (gives hk_)⟩)); have n4_ := ak (Kd.R_mono (ok' := fun k_ => some k_ ≠ (.slice Ao53 t238.length co53 : Value).ownBlock ∧ some k_ ≠ (.slice Ao61 t282.length co61 : Value).ownBlock ∧ some k_ ≠ (.slice Ao81 t259.length co81 : Value).ownBlock) (Kd.R_keptB ((Kd.R_apart' HO_259000.out (Kd.R_typed HO_266001.out) (by decide))) hkp (fun k_ hk_ hs_ => Or.elim hs_ (fun e_ => refute hk_ e_) (fun e_ => (hk_.2) e_))) (fun k_ hk_ => ⟨(gives hk_), (gives hk_), (gives hk_)⟩)); have n5_ := ak (Kd.R_mono (ok' := fun k_ => some k_ ≠ (.slice Ao55 t241.length co55 : Value).ownBlock ∧ some k_ ≠ (.slice Ao66 t283.length co66 : Value).ownBlock ∧ some k_ ≠ (.slice Ao88 t262.length co88 : Value).ownBlock) (Kd.R_keptB ((Kd.R_apart' HO_259001.out (Kd.R_typed HO_266000.out) (by decide))) hkp (fun k_ hk_ hs_ => Or.elim hs_ (fun e_ => (hk_.2) e_) (fun e_ => refute hk_ e_))) (fun k_ hk_ => ⟨(gives hk_), (gives hk_), (gives hk_)⟩)); have n6_ := ak (Kd.R_reok rfl hy0 (fun k_ e_ => HO_266000.out.1 k_ e_)); have n7_ := ak (Kd.R_reok rfl hy1 (fun k_ e_ => HO_266001.out.1 k_ e_)); have n8_ := ak (blk_kept (bTo BK222.out) hkp (fun hs_ => Or.elim hs_ (fun e_ => (fun e_ => (Kd.R_ne HO_266000.out BK222.out (by decide)) e_) e_) (fun e_ => (fun e_ => (Kd.R_ne HO_266001.out BK222.out (by decide)) e_) e_))); have n9_ := ak (blk_kept (bTo BK223.out) hkp (fun hs_ => Or.elim hs_ (fun e_ => (fun e_ => (Kd.R_ne HO_266000.out BK223.out (by decide)) e_) e_) (fun e_ => (fun e_ => (Kd.R_ne HO_266001.out BK223.out (by decide)) e_) e_))); have n10_ := ak (blk_kept (bTo BK244.out) hkp (fun hs_ => Or.elim hs_ (fun e_ => (fun e_ => (Kd.R_ne HO_266000.out BK244.out (by decide)) e_) e_) (fun e_ => (fun e_ => (Kd.R_ne HO_266001.out BK244.out (by decide)) e_) e_))); have n11_ := ak (blk_kept (bTo BK251.out) hkp (fun hs_ => Or.elim hs_ (fun e_ => (fun e_ => (Kd.R_ne HO_266000.out BK251.out (by decide)) e_) e_) (fun e_ => (fun e_ => (Kd.R_ne HO_266001.out BK251.out (by decide)) e_) e_))); have n12_ := ak (blk_kept (bTo BK258.out) hkp (fun hs_ => Or.elim hs_ (fun e_ => (fun e_ => (Kd.R_ne HO_266000.out BK258.out (by decide)) e_) e_) (fun e_ => (fun e_ => (Kd.R_ne HO_266001.out BK258.out (by decide)) e_) e_))); have n13_ := ak (blk_kept (bTo BK265.out) hkp (fun hs_ => Or.elim hs_ (fun e_ => (fun e_ => (Kd.R_ne HO_266000.out BK265.out (by decide)) e_) e_) (fun e_ => (fun e_ => (Kd.R_ne HO_266001.out BK265.out (by decide)) e_) e_))); have n14_ := ak (hb); clear HO_245000; clear HO_245001; clear HO_252000; clear HO_252001; clear HO_259000; clear HO_259001; clear HO_266000; clear HO_266001; clear BK222; clear BK223; clear BK244; clear BK251; clear BK258; clear BK265; clear HB; have HO_245000 := n0_; have HO_245001 := n1_; have HO_252000 := n2_; have HO_252001 := n3_; have HO_259000 := n4_; have HO_259001 := n5_; have HO_266000 := n6_; have HO_266001 := n7_; have BK222 := n8_; have BK223 := n9_; have BK244 := n10_; have BK251 := n11_; have BK258 := n12_; have BK265 := n13_; have HB := n14_; clear n0_ n1_ n2_ n3_ n4_ n5_ n6_ n7_ n8_ n9_ n10_ n11_ n12_ n13_ n14_; (try clear hb); (try clear hkp); (try clear hy0); (try clear hy1); have hcz139_0 : w138.cell? ⟨gb265, 0, none⟩ = some (.slice Ao81 t259.length co81) := (blk_cell BK265.out 0).trans rfl; have hcz139_1 : w138.cell? ⟨gb265, 1, none⟩ = some (.slice Ao88 t262.length co88) := (blk_cell BK265.out 1).trans rfl; have hfz139_0 := blk_frozen BK265.out 0; have hfz139_1 := blk_frozen BK265.out 1) | ((with_reducible refine gate_callee (f := 34) rfl ?_); refine goesL_ (some 69) rfl rfl Try.func34 (by kernel_rfl) rfl #[.agg #[.slice Ao81 t289.length co81, .slice Ao88 t290.length co88], .int .i64 1] rfl (by (try simp only [List.map_toArray, List.map_cons, List.map_nil]); first | done | (rw [show t289.length = t259.length from (Kd.R_reads' HO_266000.out).1.symm, show t290.length = t262.length from (Kd.R_reads' HO_266001.out).1.symm] <;> rfl) | rfl | (simp only [List.length_drop, List.length_take]; rfl)) ?_; (with_reducible refine (laws_heldReport.calls kj34 _ _ t289 _ _ t290 1 t291 _ ?side1 ?side2 ?side3 ?side4 A121.out).mono ?_); (case side1 => repeat (first | exact (Kd.R_reads' HO_266000.out).2.2 | (with_reducible refine Kd.C_alloc ?_ _) | (with_reducible refine Kd.C_drewN ?_ _) | (with_reducible refine Kd.C_drew ?_))); (case side2 => rw [show t289.length = t259.length from (Kd.R_reads' HO_266000.out).1.symm]; exact (Kd.R_reads' HO_266000.out).2.1); (case side3 => repeat (first | exact (Kd.R_reads' HO_266001.out).2.2 | (with_reducible refine Kd.C_alloc ?_ _) | (with_reducible refine Kd.C_drewN ?_ _) | (with_reducible refine Kd.C_drew ?_))); (case side4 => rw [show t290.length = t262.length from (Kd.R_reads' HO_266001.out).1.symm]; exact (Kd.R_reads' HO_266001.out).2.1); rintro e w140 ⟨rfl, hb⟩; refine ⟨_, rfl, ?_⟩; have n0_ := ak (Kd.R_below (rTo HO_245000.out) hb); have n1_ := ak (Kd.R_below (rTo HO_245001.out) hb); have n2_ := ak (Kd.R_below (rTo HO_252000.out) hb); have n3_ := ak (Kd.R_below (rTo HO_252001.out) hb); have n4_ := ak (Kd.R_below (rTo HO_259000.out) hb); have n5_ := ak (Kd.R_below (rTo HO_259001.out) hb); have n6_ := ak (Kd.R_below (rTo HO_266000.out) hb); have n7_ := ak (Kd.R_below (rTo HO_266001.out) hb); have n8_ := ak (blk_below (g := gb222) (o := .cells #[.slice A0_0 l0_0.length c0_0, .slice A0_1 l0_1.length c0_1] 41 (0, 0)) (bTo BK222.out) hb); have n9_ := ak (blk_below (g := gb223) (o := .cells #[.slice A1_0 l1_0.length c1_0, .slice A1_1 l1_1.length c1_1] 41 (0, 0)) (bTo BK223.out) hb); have n10_ := ak (blk_below (g := gb244) (o := .cells #[.slice Ao53 t238.length co53, .slice Ao55 t241.length co55] 26 (0, 0)) (bTo BK244.out) hb); have n11_ := ak (blk_below (g := gb251) (o := .cells #[.slice Ao61 t282.length co61, .slice Ao66 t283.length co66] 26 (0, 0)) (bTo BK251.out) hb); have n12_ := ak (blk_below (g := gb258) (o := .cells #[.slice Ao71 t285.length co71, .slice Ao77 t286.length co77] 26 (0, 0)) (bTo BK258.out) hb); have n13_ := ak (blk_below (g := gb265) (o := .cells #[.slice Ao81 t259.length co81, .slice Ao88 t262.length co88] 26 (0, 0)) (bTo BK265.out) hb); have n14_ := ak (below_step (by repeat (first | (with_reducible first | exact HB.out | apply below_alloc | apply pw_below_drewN | apply below_drew1 | refine below_set ?_ GE222.out | refine below_set ?_ GE223.out | refine below_set ?_ GE244.out | refine below_set ?_ GE251.out | refine below_set ?_ GE258.out | refine below_set ?_ GE265.out) | exact HB.out)) hb); clear HO_245000; clear HO_245001; clear HO_252000; clear HO_252001; clear HO_259000; clear HO_259001; clear HO_266000; clear HO_266001; clear BK222; clear BK223; clear BK244; clear BK251; clear BK258; clear BK265; clear HB; have HO_245000 := n0_; have HO_245001 := n1_; have HO_252000 := n2_; have HO_252001 := n3_; have HO_259000 := n4_; have HO_259001 := n5_; have HO_266000 := n6_; have HO_266001 := n7_; have BK222 := n8_; have BK223 := n9_; have BK244 := n10_; have BK251 := n11_; have BK258 := n12_; have BK265 := n13_; have HB := n14_; clear n0_ n1_ n2_ n3_ n4_ n5_ n6_ n7_ n8_ n9_ n10_ n11_ n12_ n13_ n14_; (try clear hb); (try clear hb2); (try clear hk); (try clear hi)))
        have n0_ := ak (Kd.R_drew HO_245000.out)
        have n1_ := ak (Kd.R_drew HO_245001.out)
        have n2_ := ak (Kd.R_drew HO_252000.out)
        have n3_ := ak (Kd.R_drew HO_252001.out)
        have n4_ := ak (Kd.R_drew HO_259000.out)
        have n5_ := ak (Kd.R_drew HO_259001.out)
        have n6_ := ak (Kd.R_drew HO_266000.out)
        have n7_ := ak (Kd.R_drew HO_266001.out)
        have n8_ := ak (blk_drew BK222.out)
        have n9_ := ak (blk_drew BK223.out)
        have n10_ := ak (blk_drew BK244.out)
        have n11_ := ak (blk_drew BK251.out)
        have n12_ := ak (blk_drew BK258.out)
        have n13_ := ak (blk_drew BK265.out)
        have n14_ := ak (below_drew1 HB.out)
        clear HO_245000
        clear HO_245001
        clear HO_252000
        clear HO_252001
        clear HO_259000
        clear HO_259001
        clear HO_266000
        clear HO_266001
        clear BK222
        clear BK223
        clear BK244
        clear BK251
        clear BK258
        clear BK265
        clear HB
        have HO_245000 := n0_
        have HO_245001 := n1_
        have HO_252000 := n2_
        have HO_252001 := n3_
        have HO_259000 := n4_
        have HO_259001 := n5_
        have HO_266000 := n6_
        have HO_266001 := n7_
        have BK222 := n8_
        have BK223 := n9_
        have BK244 := n10_
        have BK251 := n11_
        have BK258 := n12_
        have BK265 := n13_
        have HB := n14_
        clear n0_ n1_ n2_ n3_ n4_ n5_ n6_ n7_ n8_ n9_ n10_ n11_ n12_ n13_ n14_
        refine start_ (n := 7) (S := fun w' => w'.cell? ⟨gb222, 0, none⟩ = some (.slice A0_0 l0_0.length c0_0) ∧ w'.cell? ⟨gb222, 1, none⟩ = some (.slice A0_1 l0_1.length c0_1) ∧ w'.cell? ⟨gb223, 0, none⟩ = some (.slice A1_0 l1_0.length c1_0) ∧ w'.cell? ⟨gb223, 1, none⟩ = some (.slice A1_1 l1_1.length c1_1)) (ds := []) #[false, false, false, false, false, false, false] (by kernel_rfl) rfl rfl ⟨(blk_cell BK222.out 0).trans rfl, (blk_cell BK222.out 1).trans rfl, (blk_cell BK223.out 0).trans rfl, (blk_cell BK223.out 1).trans rfl⟩ (fun hHeld => ?_)
        generalize w140.drew = w141 at HO_245000 HO_245001 HO_252000 HO_252001 HO_259000 HO_259001 HO_266000 HO_266001 BK222 BK223 BK244 BK251 BK258 BK265 HB hHeld ⊢
        refine take_ (i := 0) (N := some 75) (v := ?_) (a' := ?_) #[true, false, false, false, false, false, false] rfl rfl (by kernel_rfl) (fun _ _ _ h => h) (Or.inl ⟨by rfl, ?_⟩) hHeld ?_ ?_
        rotate_left
        ·rintro w' ⟨s0, s1, s2, s3⟩
         go_simp
         with_reducible rfl
        rotate_left
        ·simp only [Act.put, List.setIfInBounds_toArray, List.set_cons_zero, List.set_cons_succ, i64_w, i32_w]
         rfl
        refine take_ (i := 2) (N := some 77) (v := ?_) (a' := ?_) #[true, false, true, false, false, false, false] rfl rfl (by kernel_rfl) (fun _ _ _ h => h) (Or.inl ⟨by rfl, ?_⟩) hHeld ?_ ?_
        rotate_left
        ·rintro w' ⟨s0, s1, s2, s3⟩
         go_simp
         with_reducible rfl
        rotate_left
        ·simp only [Act.put, List.setIfInBounds_toArray, List.set_cons_zero, List.set_cons_succ, i64_w, i32_w]
         rfl
        refine join_ (σ := Value × Value × Value × Value × Value × Value × Nat) 1 #[true, true, true, true, true, true, false] (fun s_ => [(76, .agg #[s_.1, s_.2.1]), (78, .agg #[s_.2.2.1, s_.2.2.2.1]), (79, .agg #[s_.2.2.2.2.1, s_.2.2.2.2.2.1]), (13, .pointer (some ⟨s_.2.2.2.2.2.2, 0, none⟩))]) (fun s_ w' => (w'.cell? ⟨gb222, 0, none⟩ = some (.slice A0_0 l0_0.length c0_0) ∧ w'.cell? ⟨gb222, 1, none⟩ = some (.slice A0_1 l0_1.length c0_1) ∧ w'.cell? ⟨gb223, 0, none⟩ = some (.slice A1_0 l1_0.length c1_0) ∧ w'.cell? ⟨gb223, 1, none⟩ = some (.slice A1_1 l1_1.length c1_1)) ∧ (Kd.R k37 37 w' w.heap.size (fun k_ => some k_ ≠ (s_.2.2.1 : Value).ownBlock ∧ some k_ ≠ (s_.2.2.2.2.1 : Value).ownBlock ∧ some k_ ≠ (.slice Ao53 t238.length co53 : Value).ownBlock ∧ some k_ ≠ (.slice Ao61 t282.length co61 : Value).ownBlock ∧ some k_ ≠ (.slice Ao71 t285.length co71 : Value).ownBlock ∧ some k_ ≠ (.slice Ao81 t259.length co81 : Value).ownBlock) s_.1 t292) ∧ (Kd.R Kd.string 9 w' w.heap.size (fun k_ => some k_ ≠ (s_.2.2.2.1 : Value).ownBlock ∧ some k_ ≠ (s_.2.2.2.2.2.1 : Value).ownBlock ∧ some k_ ≠ (.slice Ao55 t241.length co55 : Value).ownBlock ∧ some k_ ≠ (.slice Ao66 t283.length co66 : Value).ownBlock ∧ some k_ ≠ (.slice Ao77 t286.length co77 : Value).ownBlock ∧ some k_ ≠ (.slice Ao88 t262.length co88 : Value).ownBlock) s_.2.1 t295) ∧ (Kd.R k37 37 w' w.heap.size (fun k_ => some k_ ≠ (s_.1 : Value).ownBlock ∧ some k_ ≠ (s_.2.2.2.2.1 : Value).ownBlock ∧ some k_ ≠ (.slice Ao53 t238.length co53 : Value).ownBlock ∧ some k_ ≠ (.slice Ao61 t282.length co61 : Value).ownBlock ∧ some k_ ≠ (.slice Ao71 t285.length co71 : Value).ownBlock ∧ some k_ ≠ (.slice Ao81 t259.length co81 : Value).ownBlock) s_.2.2.1 t298) ∧ (Kd.R Kd.string 9 w' w.heap.size (fun k_ => some k_ ≠ (s_.2.1 : Value).ownBlock ∧ some k_ ≠ (s_.2.2.2.2.2.1 : Value).ownBlock ∧ some k_ ≠ (.slice Ao55 t241.length co55 : Value).ownBlock ∧ some k_ ≠ (.slice Ao66 t283.length co66 : Value).ownBlock ∧ some k_ ≠ (.slice Ao77 t286.length co77 : Value).ownBlock ∧ some k_ ≠ (.slice Ao88 t262.length co88 : Value).ownBlock) s_.2.2.2.1 t301) ∧ (Kd.R k37 37 w' w.heap.size (fun k_ => some k_ ≠ (s_.1 : Value).ownBlock ∧ some k_ ≠ (s_.2.2.1 : Value).ownBlock ∧ some k_ ≠ (.slice Ao53 t238.length co53 : Value).ownBlock ∧ some k_ ≠ (.slice Ao61 t282.length co61 : Value).ownBlock ∧ some k_ ≠ (.slice Ao71 t285.length co71 : Value).ownBlock ∧ some k_ ≠ (.slice Ao81 t259.length co81 : Value).ownBlock) s_.2.2.2.2.1 t304) ∧ (Kd.R Kd.string 9 w' w.heap.size (fun k_ => some k_ ≠ (s_.2.1 : Value).ownBlock ∧ some k_ ≠ (s_.2.2.2.1 : Value).ownBlock ∧ some k_ ≠ (.slice Ao55 t241.length co55 : Value).ownBlock ∧ some k_ ≠ (.slice Ao66 t283.length co66 : Value).ownBlock ∧ some k_ ≠ (.slice Ao77 t286.length co77 : Value).ownBlock ∧ some k_ ≠ (.slice Ao88 t262.length co88 : Value).ownBlock) s_.2.2.2.2.2.1 t307) ∧ (Kd.R k37 37 w' w.heap.size (fun k_ => some k_ ≠ (s_.1 : Value).ownBlock ∧ some k_ ≠ (s_.2.2.1 : Value).ownBlock ∧ some k_ ≠ (s_.2.2.2.2.1 : Value).ownBlock ∧ some k_ ≠ (.slice Ao61 t282.length co61 : Value).ownBlock ∧ some k_ ≠ (.slice Ao71 t285.length co71 : Value).ownBlock ∧ some k_ ≠ (.slice Ao81 t259.length co81 : Value).ownBlock) (.slice Ao53 t238.length co53) t238) ∧ (Kd.R Kd.string 9 w' w.heap.size (fun k_ => some k_ ≠ (s_.2.1 : Value).ownBlock ∧ some k_ ≠ (s_.2.2.2.1 : Value).ownBlock ∧ some k_ ≠ (s_.2.2.2.2.2.1 : Value).ownBlock ∧ some k_ ≠ (.slice Ao66 t283.length co66 : Value).ownBlock ∧ some k_ ≠ (.slice Ao77 t286.length co77 : Value).ownBlock ∧ some k_ ≠ (.slice Ao88 t262.length co88 : Value).ownBlock) (.slice Ao55 t241.length co55) t241) ∧ (Kd.R k37 37 w' w.heap.size (fun k_ => some k_ ≠ (s_.1 : Value).ownBlock ∧ some k_ ≠ (s_.2.2.1 : Value).ownBlock ∧ some k_ ≠ (s_.2.2.2.2.1 : Value).ownBlock ∧ some k_ ≠ (.slice Ao53 t238.length co53 : Value).ownBlock ∧ some k_ ≠ (.slice Ao71 t285.length co71 : Value).ownBlock ∧ some k_ ≠ (.slice Ao81 t259.length co81 : Value).ownBlock) (.slice Ao61 t282.length co61) t282) ∧ (Kd.R Kd.string 9 w' w.heap.size (fun k_ => some k_ ≠ (s_.2.1 : Value).ownBlock ∧ some k_ ≠ (s_.2.2.2.1 : Value).ownBlock ∧ some k_ ≠ (s_.2.2.2.2.2.1 : Value).ownBlock ∧ some k_ ≠ (.slice Ao55 t241.length co55 : Value).ownBlock ∧ some k_ ≠ (.slice Ao77 t286.length co77 : Value).ownBlock ∧ some k_ ≠ (.slice Ao88 t262.length co88 : Value).ownBlock) (.slice Ao66 t283.length co66) t283) ∧ (Kd.R k37 37 w' w.heap.size (fun k_ => some k_ ≠ (s_.1 : Value).ownBlock ∧ some k_ ≠ (s_.2.2.1 : Value).ownBlock ∧ some k_ ≠ (s_.2.2.2.2.1 : Value).ownBlock ∧ some k_ ≠ (.slice Ao53 t238.length co53 : Value).ownBlock ∧ some k_ ≠ (.slice Ao61 t282.length co61 : Value).ownBlock ∧ some k_ ≠ (.slice Ao81 t259.length co81 : Value).ownBlock) (.slice Ao71 t285.length co71) t285) ∧ (Kd.R Kd.string 9 w' w.heap.size (fun k_ => some k_ ≠ (s_.2.1 : Value).ownBlock ∧ some k_ ≠ (s_.2.2.2.1 : Value).ownBlock ∧ some k_ ≠ (s_.2.2.2.2.2.1 : Value).ownBlock ∧ some k_ ≠ (.slice Ao55 t241.length co55 : Value).ownBlock ∧ some k_ ≠ (.slice Ao66 t283.length co66 : Value).ownBlock ∧ some k_ ≠ (.slice Ao88 t262.length co88 : Value).ownBlock) (.slice Ao77 t286.length co77) t286) ∧ (Kd.R k37 37 w' w.heap.size (fun k_ => some k_ ≠ (s_.1 : Value).ownBlock ∧ some k_ ≠ (s_.2.2.1 : Value).ownBlock ∧ some k_ ≠ (s_.2.2.2.2.1 : Value).ownBlock ∧ some k_ ≠ (.slice Ao53 t238.length co53 : Value).ownBlock ∧ some k_ ≠ (.slice Ao61 t282.length co61 : Value).ownBlock ∧ some k_ ≠ (.slice Ao71 t285.length co71 : Value).ownBlock) (.slice Ao81 t259.length co81) t289) ∧ (Kd.R Kd.string 9 w' w.heap.size (fun k_ => some k_ ≠ (s_.2.1 : Value).ownBlock ∧ some k_ ≠ (s_.2.2.2.1 : Value).ownBlock ∧ some k_ ≠ (s_.2.2.2.2.2.1 : Value).ownBlock ∧ some k_ ≠ (.slice Ao55 t241.length co55 : Value).ownBlock ∧ some k_ ≠ (.slice Ao66 t283.length co66 : Value).ownBlock ∧ some k_ ≠ (.slice Ao77 t286.length co77 : Value).ownBlock) (.slice Ao88 t262.length co88) t290) ∧ (w'.heap[gb222]? = some (.cells #[.slice A0_0 l0_0.length c0_0, .slice A0_1 l0_1.length c0_1] 41 (0, 0))) ∧ (w'.heap[gb223]? = some (.cells #[.slice A1_0 l1_0.length c1_0, .slice A1_1 l1_1.length c1_1] 41 (0, 0))) ∧ (w'.heap[gb244]? = some (.cells #[.slice Ao53 t238.length co53, .slice Ao55 t241.length co55] 26 (0, 0))) ∧ (w'.heap[gb251]? = some (.cells #[.slice Ao61 t282.length co61, .slice Ao66 t283.length co66] 26 (0, 0))) ∧ (w'.heap[gb258]? = some (.cells #[.slice Ao71 t285.length co71, .slice Ao77 t286.length co77] 26 (0, 0))) ∧ (w'.heap[gb265]? = some (.cells #[.slice Ao81 t259.length co81, .slice Ao88 t262.length co88] 26 (0, 0))) ∧ (w'.heap[s_.2.2.2.2.2.2]? = some (.cells #[.slice none 0 0, .slice none 0 0] 26 (0, 0))) ∧ (w.heap.size ≤ s_.2.2.2.2.2.2) ∧ (w.heap.size ≤ s_.2.2.2.2.2.2) ∧ (gb222 ≠ s_.2.2.2.2.2.2) ∧ (s_.2.2.2.2.2.2 ≠ gb222) ∧ (gb223 ≠ s_.2.2.2.2.2.2) ∧ (s_.2.2.2.2.2.2 ≠ gb223) ∧ (gb244 ≠ s_.2.2.2.2.2.2) ∧ (s_.2.2.2.2.2.2 ≠ gb244) ∧ (gb251 ≠ s_.2.2.2.2.2.2) ∧ (s_.2.2.2.2.2.2 ≠ gb251) ∧ (gb258 ≠ s_.2.2.2.2.2.2) ∧ (s_.2.2.2.2.2.2 ≠ gb258) ∧ (gb265 ≠ s_.2.2.2.2.2.2) ∧ (s_.2.2.2.2.2.2 ≠ gb265) ∧ (Below w.heap.size w w')) ?_ ?_
        rotate_left
        ·intro hCont
         refine two_ (i := 1) (j := 5) (Ni := some 76) (Nj := some 13) #[true, true, true, false, false, false, false] #[true, false, true, false, false, true, false] rfl rfl rfl rfl (by kernel_rfl) (by decide) (by decide) (fun K hK => ?_) (fun K hK => ?_)
         ·skip
          refine goes_ Try.func25 (by kernel_rfl) rfl #[.agg #[.slice A0_0 l0_0.length c0_0, .slice A0_1 l0_1.length c0_1]] (by rfl) rfl rfl (by (try simp only [List.map_toArray, List.map_cons, List.map_nil]); first | done | rfl | (simp only [List.length_drop, List.length_take]; rfl)) ?_
          with_reducible refine (laws_toReport.calls kj34 _ _ l0_0 _ _ l0_1 t292 t295 _ ?side1 ?side2 ?side3 ?side4 A124.out).mono ?_
          (case side1 => repeat (first | exact (Kd.C_below HR0_0.out HB.out) | (with_reducible refine Kd.C_alloc ?_ _) | (with_reducible refine Kd.C_drewN ?_ _) | (with_reducible refine Kd.C_drew ?_)))
          (case side2 => exact HC0_0.out)
          (case side3 => repeat (first | exact (Kd.C_below HR0_1.out HB.out) | (with_reducible refine Kd.C_alloc ?_ _) | (with_reducible refine Kd.C_drewN ?_ _) | (with_reducible refine Kd.C_drew ?_)))
          (case side4 => exact HC0_1.out)
          rintro e w142 ⟨v293, v296, rfl, ho0, ho1, hb⟩
          refine ⟨_, rfl, ?_⟩
          have n0_ := ak (Kd.R_elder' (rTo HO_245000.out) (Kd.R_base ho0) hb)
          have n1_ := ak (Kd.R_elder' (rTo HO_245001.out) (Kd.R_base ho1) hb)
          have n2_ := ak (Kd.R_elder' (rTo HO_252000.out) (Kd.R_base ho0) hb)
          have n3_ := ak (Kd.R_elder' (rTo HO_252001.out) (Kd.R_base ho1) hb)
          have n4_ := ak (Kd.R_elder' (rTo HO_259000.out) (Kd.R_base ho0) hb)
          have n5_ := ak (Kd.R_elder' (rTo HO_259001.out) (Kd.R_base ho1) hb)
          have n6_ := ak (Kd.R_elder' (rTo HO_266000.out) (Kd.R_base ho0) hb)
          have n7_ := ak (Kd.R_elder' (rTo HO_266001.out) (Kd.R_base ho1) hb)
          have n8_ := ak (Kd.R_lower (Kd.R_new' (Kd.R_new' (Kd.R_new' (Kd.R_new' ho0 (Kd.R_lt (rTo HO_245000.out))) (Kd.R_lt (rTo HO_252000.out))) (Kd.R_lt (rTo HO_259000.out))) (Kd.R_lt (rTo HO_266000.out))) (below_size (by repeat (first | (with_reducible first | exact HB.out | apply below_alloc | apply pw_below_drewN | apply below_drew1 | refine below_set ?_ GE222.out | refine below_set ?_ GE223.out | refine below_set ?_ GE244.out | refine below_set ?_ GE251.out | refine below_set ?_ GE258.out | refine below_set ?_ GE265.out) | exact HB.out))))
          have n9_ := ak (Kd.R_lower (Kd.R_new' (Kd.R_new' (Kd.R_new' (Kd.R_new' ho1 (Kd.R_lt (rTo HO_245001.out))) (Kd.R_lt (rTo HO_252001.out))) (Kd.R_lt (rTo HO_259001.out))) (Kd.R_lt (rTo HO_266001.out))) (below_size (by repeat (first | (with_reducible first | exact HB.out | apply below_alloc | apply pw_below_drewN | apply below_drew1 | refine below_set ?_ GE222.out | refine below_set ?_ GE223.out | refine below_set ?_ GE244.out | refine below_set ?_ GE251.out | refine below_set ?_ GE258.out | refine below_set ?_ GE265.out) | exact HB.out))))
          have n10_ := ak (blk_below (g := gb222) (o := .cells #[.slice A0_0 l0_0.length c0_0, .slice A0_1 l0_1.length c0_1] 41 (0, 0)) (bTo BK222.out) hb)
          have n11_ := ak (blk_below (g := gb223) (o := .cells #[.slice A1_0 l1_0.length c1_0, .slice A1_1 l1_1.length c1_1] 41 (0, 0)) (bTo BK223.out) hb)
          have n12_ := ak (blk_below (g := gb244) (o := .cells #[.slice Ao53 t238.length co53, .slice Ao55 t241.length co55] 26 (0, 0)) (bTo BK244.out) hb)
          have n13_ := ak (blk_below (g := gb251) (o := .cells #[.slice Ao61 t282.length co61, .slice Ao66 t283.length co66] 26 (0, 0)) (bTo BK251.out) hb)
          have n14_ := ak (blk_below (g := gb258) (o := .cells #[.slice Ao71 t285.length co71, .slice Ao77 t286.length co77] 26 (0, 0)) (bTo BK258.out) hb)
          have n15_ := ak (blk_below (g := gb265) (o := .cells #[.slice Ao81 t259.length co81, .slice Ao88 t262.length co88] 26 (0, 0)) (bTo BK265.out) hb)
          have n16_ := ak (below_step (by repeat (first | (with_reducible first | exact HB.out | apply below_alloc | apply pw_below_drewN | apply below_drew1 | refine below_set ?_ GE222.out | refine below_set ?_ GE223.out | refine below_set ?_ GE244.out | refine below_set ?_ GE251.out | refine below_set ?_ GE258.out | refine below_set ?_ GE265.out) | exact HB.out)) hb)
          clear HO_245000
          clear HO_245001
          clear HO_252000
          clear HO_252001
          clear HO_259000
          clear HO_259001
          clear HO_266000
          clear HO_266001
          clear BK222
          clear BK223
          clear BK244
          clear BK251
          clear BK258
          clear BK265
          clear HB
          have HO_245000 := n0_
          have HO_245001 := n1_
          have HO_252000 := n2_
          have HO_252001 := n3_
          have HO_259000 := n4_
          have HO_259001 := n5_
          have HO_266000 := n6_
          have HO_266001 := n7_
          have HO294 := n8_
          have HO297 := n9_
          have BK222 := n10_
          have BK223 := n11_
          have BK244 := n12_
          have BK251 := n13_
          have BK258 := n14_
          have BK265 := n15_
          have HB := n16_
          clear n0_ n1_ n2_ n3_ n4_ n5_ n6_ n7_ n8_ n9_ n10_ n11_ n12_ n13_ n14_ n15_ n16_
          (try clear hb)
          (try clear hb2)
          (try clear hk)
          (try clear hi)
          (try clear ho0)
          (try clear ho1)
          refine hK.out _ _ ⟨(blk_cell BK222.out 0).trans rfl, (blk_cell BK222.out 1).trans rfl, (blk_cell BK223.out 0).trans rfl, (blk_cell BK223.out 1).trans rfl⟩ (fun hHeld => ?_)
          clear hK K
          refine norm_ (a' := ?_) ?_ ?_
          rotate_left
          ·show Act.put _ (some 76) _ = _
           simp only [Act.put, List.setIfInBounds_toArray, List.set_cons_zero, List.set_cons_succ, i64_w, i32_w]
           rfl
          refine two_ (i := 3) (j := 5) (Ni := some 78) (Nj := some 13) #[true, true, true, true, false, false, false] #[true, true, true, false, false, true, false] rfl rfl rfl rfl (by kernel_rfl) (by decide) (by decide) (fun K hK => ?_) (fun K hK => ?_)
          ·skip
           refine goes_ Try.func25 (by kernel_rfl) rfl #[.agg #[.slice A1_0 l1_0.length c1_0, .slice A1_1 l1_1.length c1_1]] (by rfl) rfl rfl (by (try simp only [List.map_toArray, List.map_cons, List.map_nil]); first | done | rfl | (simp only [List.length_drop, List.length_take]; rfl)) ?_
           with_reducible refine (laws_toReport.calls kj34 _ _ l1_0 _ _ l1_1 t298 t301 _ ?side1 ?side2 ?side3 ?side4 A125.out).mono ?_
           (case side1 => repeat (first | exact (Kd.C_below HR1_0.out HB.out) | (with_reducible refine Kd.C_alloc ?_ _) | (with_reducible refine Kd.C_drewN ?_ _) | (with_reducible refine Kd.C_drew ?_)))
           (case side2 => exact HC1_0.out)
           (case side3 => repeat (first | exact (Kd.C_below HR1_1.out HB.out) | (with_reducible refine Kd.C_alloc ?_ _) | (with_reducible refine Kd.C_drewN ?_ _) | (with_reducible refine Kd.C_drew ?_)))
           (case side4 => exact HC1_1.out)
           rintro e w143 ⟨v299, v302, rfl, ho0, ho1, hb⟩
           refine ⟨_, rfl, ?_⟩
           have n0_ := ak (Kd.R_elder' (rTo HO_245000.out) (Kd.R_base ho0) hb)
           have n1_ := ak (Kd.R_elder' (rTo HO_245001.out) (Kd.R_base ho1) hb)
           have n2_ := ak (Kd.R_elder' (rTo HO_252000.out) (Kd.R_base ho0) hb)
           have n3_ := ak (Kd.R_elder' (rTo HO_252001.out) (Kd.R_base ho1) hb)
           have n4_ := ak (Kd.R_elder' (rTo HO_259000.out) (Kd.R_base ho0) hb)
           have n5_ := ak (Kd.R_elder' (rTo HO_259001.out) (Kd.R_base ho1) hb)
           have n6_ := ak (Kd.R_elder' (rTo HO_266000.out) (Kd.R_base ho0) hb)
           have n7_ := ak (Kd.R_elder' (rTo HO_266001.out) (Kd.R_base ho1) hb)
           have n8_ := ak (Kd.R_elder' (rTo HO294.out) (Kd.R_base ho0) hb)
           have n9_ := ak (Kd.R_elder' (rTo HO297.out) (Kd.R_base ho1) hb)
           have n10_ := ak (Kd.R_lower (Kd.R_new' (Kd.R_new' (Kd.R_new' (Kd.R_new' (Kd.R_new' ho0 (Kd.R_lt (rTo HO_245000.out))) (Kd.R_lt (rTo HO_252000.out))) (Kd.R_lt (rTo HO_259000.out))) (Kd.R_lt (rTo HO_266000.out))) (Kd.R_lt (rTo HO294.out))) (below_size (by repeat (first | (with_reducible first | exact HB.out | apply below_alloc | apply pw_below_drewN | apply below_drew1 | refine below_set ?_ GE222.out | refine below_set ?_ GE223.out | refine below_set ?_ GE244.out | refine below_set ?_ GE251.out | refine below_set ?_ GE258.out | refine below_set ?_ GE265.out) | exact HB.out))))
           have n11_ := ak (Kd.R_lower (Kd.R_new' (Kd.R_new' (Kd.R_new' (Kd.R_new' (Kd.R_new' ho1 (Kd.R_lt (rTo HO_245001.out))) (Kd.R_lt (rTo HO_252001.out))) (Kd.R_lt (rTo HO_259001.out))) (Kd.R_lt (rTo HO_266001.out))) (Kd.R_lt (rTo HO297.out))) (below_size (by repeat (first | (with_reducible first | exact HB.out | apply below_alloc | apply pw_below_drewN | apply below_drew1 | refine below_set ?_ GE222.out | refine below_set ?_ GE223.out | refine below_set ?_ GE244.out | refine below_set ?_ GE251.out | refine below_set ?_ GE258.out | refine below_set ?_ GE265.out) | exact HB.out))))
           have n12_ := ak (blk_below (g := gb222) (o := .cells #[.slice A0_0 l0_0.length c0_0, .slice A0_1 l0_1.length c0_1] 41 (0, 0)) (bTo BK222.out) hb)
           have n13_ := ak (blk_below (g := gb223) (o := .cells #[.slice A1_0 l1_0.length c1_0, .slice A1_1 l1_1.length c1_1] 41 (0, 0)) (bTo BK223.out) hb)
           have n14_ := ak (blk_below (g := gb244) (o := .cells #[.slice Ao53 t238.length co53, .slice Ao55 t241.length co55] 26 (0, 0)) (bTo BK244.out) hb)
           have n15_ := ak (blk_below (g := gb251) (o := .cells #[.slice Ao61 t282.length co61, .slice Ao66 t283.length co66] 26 (0, 0)) (bTo BK251.out) hb)
           have n16_ := ak (blk_below (g := gb258) (o := .cells #[.slice Ao71 t285.length co71, .slice Ao77 t286.length co77] 26 (0, 0)) (bTo BK258.out) hb)
           have n17_ := ak (blk_below (g := gb265) (o := .cells #[.slice Ao81 t259.length co81, .slice Ao88 t262.length co88] 26 (0, 0)) (bTo BK265.out) hb)
           have n18_ := ak (below_step (by repeat (first | (with_reducible first | exact HB.out | apply below_alloc | apply pw_below_drewN | apply below_drew1 | refine below_set ?_ GE222.out | refine below_set ?_ GE223.out | refine below_set ?_ GE244.out | refine below_set ?_ GE251.out | refine below_set ?_ GE258.out | refine below_set ?_ GE265.out) | exact HB.out)) hb)
           clear HO_245000
           clear HO_245001
           clear HO_252000
           clear HO_252001
           clear HO_259000
           clear HO_259001
           clear HO_266000
           clear HO_266001
           clear HO294
           clear HO297
           clear BK222
           clear BK223
           clear BK244
           clear BK251
           clear BK258
           clear BK265
           clear HB
           have HO_245000 := n0_
           have HO_245001 := n1_
           have HO_252000 := n2_
           have HO_252001 := n3_
           have HO_259000 := n4_
           have HO_259001 := n5_
           have HO_266000 := n6_
           have HO_266001 := n7_
           have HO294 := n8_
           have HO297 := n9_
           have HO300 := n10_
           have HO303 := n11_
           have BK222 := n12_
           have BK223 := n13_
           have BK244 := n14_
           have BK251 := n15_
           have BK258 := n16_
           have BK265 := n17_
           have HB := n18_
           clear n0_ n1_ n2_ n3_ n4_ n5_ n6_ n7_ n8_ n9_ n10_ n11_ n12_ n13_ n14_ n15_ n16_ n17_ n18_
           (try clear hb)
           (try clear hb2)
           (try clear hk)
           (try clear hi)
           (try clear ho0)
           (try clear ho1)
           obtain ⟨Ao144, co144, eo144⟩ := Kd.R_slice HO294.out
           (first | subst eo144 | (injection eo144 with f1_ f2_ f3_; have f4_ := f1_.symm; have f5_ := f3_.symm; clear f1_ f2_ f3_; subst f4_; subst f5_))
           obtain ⟨Ao145, co145, eo145⟩ := Kd.R_slice HO297.out
           (first | subst eo145 | (injection eo145 with f1_ f2_ f3_; have f4_ := f1_.symm; have f5_ := f3_.symm; clear f1_ f2_ f3_; subst f4_; subst f5_))
           obtain ⟨Ao146, co146, eo146⟩ := Kd.R_slice HO300.out
           (first | subst eo146 | (injection eo146 with f1_ f2_ f3_; have f4_ := f1_.symm; have f5_ := f3_.symm; clear f1_ f2_ f3_; subst f4_; subst f5_))
           obtain ⟨Ao147, co147, eo147⟩ := Kd.R_slice HO303.out
           (first | subst eo147 | (injection eo147 with f1_ f2_ f3_; have f4_ := f1_.symm; have f5_ := f3_.symm; clear f1_ f2_ f3_; subst f4_; subst f5_))
           refine hK.out _ _ ⟨(blk_cell BK222.out 0).trans rfl, (blk_cell BK222.out 1).trans rfl, (blk_cell BK223.out 0).trans rfl, (blk_cell BK223.out 1).trans rfl⟩ (fun hHeld => ?_)
           clear hK K
           refine norm_ (a' := ?_) ?_ ?_
           rotate_left
           ·show Act.put _ (some 78) _ = _
            simp only [Act.put, List.setIfInBounds_toArray, List.set_cons_zero, List.set_cons_succ, i64_w, i32_w]
            rfl
           refine two_ (i := 4) (j := 5) (Ni := some 79) (Nj := some 13) #[true, true, true, true, true, false, false] #[true, true, true, true, false, true, false] rfl rfl rfl rfl (by kernel_rfl) (by decide) (by decide) (fun K hK => ?_) (fun K hK => ?_)
           ·skip
            refine goes_ Try.func19 (by kernel_rfl) rfl #[.agg #[.slice Ao144 t292.length co144, .slice Ao145 t295.length co145], .agg #[.slice Ao146 t298.length co146, .slice Ao147 t301.length co147]] (by rfl) rfl rfl (by (try simp only [List.map_toArray, List.map_cons, List.map_nil]); first | done | rfl | (simp only [List.length_drop, List.length_take]; rfl)) ?_
            with_reducible refine (impl_MergeReports.calls kj34 _ _ t292 _ _ t295 _ _ t298 _ _ t301 t304 t307 _ ?side1 ?side2 ?side3 ?side4 ?side5 ?side6 ?side7 ?side8 A126.out).mono ?_
            (case side1 => repeat (first | exact (Kd.R_reads' HO294.out).2.2 | (with_reducible refine Kd.C_alloc ?_ _) | (with_reducible refine Kd.C_drewN ?_ _) | (with_reducible refine Kd.C_drew ?_)))
            (case side2 => exact (Kd.R_reads' HO294.out).2.1)
            (case side3 => repeat (first | exact (Kd.R_reads' HO297.out).2.2 | (with_reducible refine Kd.C_alloc ?_ _) | (with_reducible refine Kd.C_drewN ?_ _) | (with_reducible refine Kd.C_drew ?_)))
            (case side4 => exact (Kd.R_reads' HO297.out).2.1)
            (case side5 => repeat (first | exact (Kd.R_reads' HO300.out).2.2 | (with_reducible refine Kd.C_alloc ?_ _) | (with_reducible refine Kd.C_drewN ?_ _) | (with_reducible refine Kd.C_drew ?_)))
            (case side6 => exact (Kd.R_reads' HO300.out).2.1)
            (case side7 => repeat (first | exact (Kd.R_reads' HO303.out).2.2 | (with_reducible refine Kd.C_alloc ?_ _) | (with_reducible refine Kd.C_drewN ?_ _) | (with_reducible refine Kd.C_drew ?_)))
            (case side8 => exact (Kd.R_reads' HO303.out).2.1)
            rintro e w148 ⟨v305, v308, rfl, ho0, ho1, hb⟩
            refine ⟨_, rfl, ?_⟩
            have n0_ := ak (Kd.R_elder' (rTo HO_245000.out) (Kd.R_base ho0) hb)
            have n1_ := ak (Kd.R_elder' (rTo HO_245001.out) (Kd.R_base ho1) hb)
            have n2_ := ak (Kd.R_elder' (rTo HO_252000.out) (Kd.R_base ho0) hb)
            have n3_ := ak (Kd.R_elder' (rTo HO_252001.out) (Kd.R_base ho1) hb)
            have n4_ := ak (Kd.R_elder' (rTo HO_259000.out) (Kd.R_base ho0) hb)
            have n5_ := ak (Kd.R_elder' (rTo HO_259001.out) (Kd.R_base ho1) hb)
            have n6_ := ak (Kd.R_elder' (rTo HO_266000.out) (Kd.R_base ho0) hb)
            have n7_ := ak (Kd.R_elder' (rTo HO_266001.out) (Kd.R_base ho1) hb)
            have n8_ := ak (Kd.R_elder' (rTo HO294.out) (Kd.R_base ho0) hb)
            have n9_ := ak (Kd.R_elder' (rTo HO297.out) (Kd.R_base ho1) hb)
            have n10_ := ak (Kd.R_elder' (rTo HO300.out) (Kd.R_base ho0) hb)
            have n11_ := ak (Kd.R_elder' (rTo HO303.out) (Kd.R_base ho1) hb)
            have n12_ := ak (Kd.R_lower (Kd.R_new' (Kd.R_new' (Kd.R_new' (Kd.R_new' (Kd.R_new' (Kd.R_new' ho0 (Kd.R_lt (rTo HO_245000.out))) (Kd.R_lt (rTo HO_252000.out))) (Kd.R_lt (rTo HO_259000.out))) (Kd.R_lt (rTo HO_266000.out))) (Kd.R_lt (rTo HO294.out))) (Kd.R_lt (rTo HO300.out))) (below_size (by repeat (first | (with_reducible first | exact HB.out | apply below_alloc | apply pw_below_drewN | apply below_drew1 | refine below_set ?_ GE222.out | refine below_set ?_ GE223.out | refine below_set ?_ GE244.out | refine below_set ?_ GE251.out | refine below_set ?_ GE258.out | refine below_set ?_ GE265.out) | exact HB.out))))
            have n13_ := ak (Kd.R_lower (Kd.R_new' (Kd.R_new' (Kd.R_new' (Kd.R_new' (Kd.R_new' (Kd.R_new' ho1 (Kd.R_lt (rTo HO_245001.out))) (Kd.R_lt (rTo HO_252001.out))) (Kd.R_lt (rTo HO_259001.out))) (Kd.R_lt (rTo HO_266001.out))) (Kd.R_lt (rTo HO297.out))) (Kd.R_lt (rTo HO303.out))) (below_size (by repeat (first | (with_reducible first | exact HB.out | apply below_alloc | apply pw_below_drewN | apply below_drew1 | refine below_set ?_ GE222.out | refine below_set ?_ GE223.out | refine below_set ?_ GE244.out | refine below_set ?_ GE251.out | refine below_set ?_ GE258.out | refine below_set ?_ GE265.out) | exact HB.out))))
            have n14_ := ak (blk_below (g := gb222) (o := .cells #[.slice A0_0 l0_0.length c0_0, .slice A0_1 l0_1.length c0_1] 41 (0, 0)) (bTo BK222.out) hb)
            have n15_ := ak (blk_below (g := gb223) (o := .cells #[.slice A1_0 l1_0.length c1_0, .slice A1_1 l1_1.length c1_1] 41 (0, 0)) (bTo BK223.out) hb)
            have n16_ := ak (blk_below (g := gb244) (o := .cells #[.slice Ao53 t238.length co53, .slice Ao55 t241.length co55] 26 (0, 0)) (bTo BK244.out) hb)
            have n17_ := ak (blk_below (g := gb251) (o := .cells #[.slice Ao61 t282.length co61, .slice Ao66 t283.length co66] 26 (0, 0)) (bTo BK251.out) hb)
            have n18_ := ak (blk_below (g := gb258) (o := .cells #[.slice Ao71 t285.length co71, .slice Ao77 t286.length co77] 26 (0, 0)) (bTo BK258.out) hb)
            have n19_ := ak (blk_below (g := gb265) (o := .cells #[.slice Ao81 t259.length co81, .slice Ao88 t262.length co88] 26 (0, 0)) (bTo BK265.out) hb)
            have n20_ := ak (below_step (by repeat (first | (with_reducible first | exact HB.out | apply below_alloc | apply pw_below_drewN | apply below_drew1 | refine below_set ?_ GE222.out | refine below_set ?_ GE223.out | refine below_set ?_ GE244.out | refine below_set ?_ GE251.out | refine below_set ?_ GE258.out | refine below_set ?_ GE265.out) | exact HB.out)) hb)
            clear HO_245000
            clear HO_245001
            clear HO_252000
            clear HO_252001
            clear HO_259000
            clear HO_259001
            clear HO_266000
            clear HO_266001
            clear HO294
            clear HO297
            clear HO300
            clear HO303
            clear BK222
            clear BK223
            clear BK244
            clear BK251
            clear BK258
            clear BK265
            clear HB
            have HO_245000 := n0_
            have HO_245001 := n1_
            have HO_252000 := n2_
            have HO_252001 := n3_
            have HO_259000 := n4_
            have HO_259001 := n5_
            have HO_266000 := n6_
            have HO_266001 := n7_
            have HO294 := n8_
            have HO297 := n9_
            have HO300 := n10_
            have HO303 := n11_
            have HO306 := n12_
            have HO309 := n13_
            have BK222 := n14_
            have BK223 := n15_
            have BK244 := n16_
            have BK251 := n17_
            have BK258 := n18_
            have BK265 := n19_
            have HB := n20_
            clear n0_ n1_ n2_ n3_ n4_ n5_ n6_ n7_ n8_ n9_ n10_ n11_ n12_ n13_ n14_ n15_ n16_ n17_ n18_ n19_ n20_
            (try clear hb)
            (try clear hb2)
            (try clear hk)
            (try clear hi)
            (try clear ho0)
            (try clear ho1)
            refine hK.out _ _ ⟨(blk_cell BK222.out 0).trans rfl, (blk_cell BK222.out 1).trans rfl, (blk_cell BK223.out 0).trans rfl, (blk_cell BK223.out 1).trans rfl⟩ (fun hHeld => ?_)
            clear hK K
            refine norm_ (a' := ?_) ?_ ?_
            rotate_left
            ·show Act.put _ (some 79) _ = _
             simp only [Act.put, List.setIfInBounds_toArray, List.set_cons_zero, List.set_cons_succ, i64_w, i32_w]
             rfl
            refine one_ (i := 5) (N := some 13) #[true, true, true, true, true, true, false] rfl rfl (by kernel_rfl) (by decide) (fun K hK => ?_)
            refine box_step ?hg (N := 13) ?hd (cs := #[.slice none 0 0, .slice none 0 0]) (t := 26) ?hr ?_; (case hd => rfl); (case hg => rfl); (case hr => first | (go_simp; done) | (go_simp; rfl))
            intro gb310 hg w149 hbox hb
            have n0_ := ak (Kd.R_below (rTo HO_245000.out) hb)
            have n1_ := ak (Kd.R_below (rTo HO_245001.out) hb)
            have n2_ := ak (Kd.R_below (rTo HO_252000.out) hb)
            have n3_ := ak (Kd.R_below (rTo HO_252001.out) hb)
            have n4_ := ak (Kd.R_below (rTo HO_259000.out) hb)
            have n5_ := ak (Kd.R_below (rTo HO_259001.out) hb)
            have n6_ := ak (Kd.R_below (rTo HO_266000.out) hb)
            have n7_ := ak (Kd.R_below (rTo HO_266001.out) hb)
            have n8_ := ak (Kd.R_below (rTo HO294.out) hb)
            have n9_ := ak (Kd.R_below (rTo HO297.out) hb)
            have n10_ := ak (Kd.R_below (rTo HO300.out) hb)
            have n11_ := ak (Kd.R_below (rTo HO303.out) hb)
            have n12_ := ak (Kd.R_below (rTo HO306.out) hb)
            have n13_ := ak (Kd.R_below (rTo HO309.out) hb)
            have n14_ := ak (blk_below (g := gb222) (o := .cells #[.slice A0_0 l0_0.length c0_0, .slice A0_1 l0_1.length c0_1] 41 (0, 0)) (bTo BK222.out) hb)
            have n15_ := ak (blk_below (g := gb223) (o := .cells #[.slice A1_0 l1_0.length c1_0, .slice A1_1 l1_1.length c1_1] 41 (0, 0)) (bTo BK223.out) hb)
            have n16_ := ak (blk_below (g := gb244) (o := .cells #[.slice Ao53 t238.length co53, .slice Ao55 t241.length co55] 26 (0, 0)) (bTo BK244.out) hb)
            have n17_ := ak (blk_below (g := gb251) (o := .cells #[.slice Ao61 t282.length co61, .slice Ao66 t283.length co66] 26 (0, 0)) (bTo BK251.out) hb)
            have n18_ := ak (blk_below (g := gb258) (o := .cells #[.slice Ao71 t285.length co71, .slice Ao77 t286.length co77] 26 (0, 0)) (bTo BK258.out) hb)
            have n19_ := ak (blk_below (g := gb265) (o := .cells #[.slice Ao81 t259.length co81, .slice Ao88 t262.length co88] 26 (0, 0)) (bTo BK265.out) hb)
            have n20_ := ak (below_step (by repeat (first | (with_reducible first | exact HB.out | apply below_alloc | apply pw_below_drewN | apply below_drew1 | refine below_set ?_ GE222.out | refine below_set ?_ GE223.out | refine below_set ?_ GE244.out | refine below_set ?_ GE251.out | refine below_set ?_ GE258.out | refine below_set ?_ GE265.out) | exact HB.out)) hb)
            have n21_ := ak (hbox)
            have n22_ := ak ((by rw [hg]; exact (below_size (by repeat (first | (with_reducible first | exact HB.out | apply below_alloc | apply pw_below_drewN | apply below_drew1 | refine below_set ?_ GE222.out | refine below_set ?_ GE223.out | refine below_set ?_ GE244.out | refine below_set ?_ GE251.out | refine below_set ?_ GE258.out | refine below_set ?_ GE265.out) | exact HB.out))) : w.heap.size ≤ gb310))
            have n23_ := ak ((by rw [hg]; exact (below_size (by repeat (first | (with_reducible first | exact HB.out | apply below_alloc | apply pw_below_drewN | apply below_drew1 | refine below_set ?_ GE222.out | refine below_set ?_ GE223.out | refine below_set ?_ GE244.out | refine below_set ?_ GE251.out | refine below_set ?_ GE258.out | refine below_set ?_ GE265.out) | exact HB.out))) : w.heap.size ≤ gb310))
            have n24_ := ak ((by rw [hg]; exact Nat.ne_of_lt (blk_lt (g := gb222) (o := .cells #[.slice A0_0 l0_0.length c0_0, .slice A0_1 l0_1.length c0_1] 41 (0, 0)) (bTo BK222.out)) : gb222 ≠ gb310))
            have n25_ := ak ((by rw [hg]; exact Nat.ne_of_gt (blk_lt (g := gb222) (o := .cells #[.slice A0_0 l0_0.length c0_0, .slice A0_1 l0_1.length c0_1] 41 (0, 0)) (bTo BK222.out)) : gb310 ≠ gb222))
            have n26_ := ak ((by rw [hg]; exact Nat.ne_of_lt (blk_lt (g := gb223) (o := .cells #[.slice A1_0 l1_0.length c1_0, .slice A1_1 l1_1.length c1_1] 41 (0, 0)) (bTo BK223.out)) : gb223 ≠ gb310))
            have n27_ := ak ((by rw [hg]; exact Nat.ne_of_gt (blk_lt (g := gb223) (o := .cells #[.slice A1_0 l1_0.length c1_0, .slice A1_1 l1_1.length c1_1] 41 (0, 0)) (bTo BK223.out)) : gb310 ≠ gb223))
            have n28_ := ak ((by rw [hg]; exact Nat.ne_of_lt (blk_lt (g := gb244) (o := .cells #[.slice Ao53 t238.length co53, .slice Ao55 t241.length co55] 26 (0, 0)) (bTo BK244.out)) : gb244 ≠ gb310))
            have n29_ := ak ((by rw [hg]; exact Nat.ne_of_gt (blk_lt (g := gb244) (o := .cells #[.slice Ao53 t238.length co53, .slice Ao55 t241.length co55] 26 (0, 0)) (bTo BK244.out)) : gb310 ≠ gb244))
            have n30_ := ak ((by rw [hg]; exact Nat.ne_of_lt (blk_lt (g := gb251) (o := .cells #[.slice Ao61 t282.length co61, .slice Ao66 t283.length co66] 26 (0, 0)) (bTo BK251.out)) : gb251 ≠ gb310))
            have n31_ := ak ((by rw [hg]; exact Nat.ne_of_gt (blk_lt (g := gb251) (o := .cells #[.slice Ao61 t282.length co61, .slice Ao66 t283.length co66] 26 (0, 0)) (bTo BK251.out)) : gb310 ≠ gb251))
            have n32_ := ak ((by rw [hg]; exact Nat.ne_of_lt (blk_lt (g := gb258) (o := .cells #[.slice Ao71 t285.length co71, .slice Ao77 t286.length co77] 26 (0, 0)) (bTo BK258.out)) : gb258 ≠ gb310))
            have n33_ := ak ((by rw [hg]; exact Nat.ne_of_gt (blk_lt (g := gb258) (o := .cells #[.slice Ao71 t285.length co71, .slice Ao77 t286.length co77] 26 (0, 0)) (bTo BK258.out)) : gb310 ≠ gb258))
            have n34_ := ak ((by rw [hg]; exact Nat.ne_of_lt (blk_lt (g := gb265) (o := .cells #[.slice Ao81 t259.length co81, .slice Ao88 t262.length co88] 26 (0, 0)) (bTo BK265.out)) : gb265 ≠ gb310))
            have n35_ := ak ((by rw [hg]; exact Nat.ne_of_gt (blk_lt (g := gb265) (o := .cells #[.slice Ao81 t259.length co81, .slice Ao88 t262.length co88] 26 (0, 0)) (bTo BK265.out)) : gb310 ≠ gb265))
            clear HO_245000
            clear HO_245001
            clear HO_252000
            clear HO_252001
            clear HO_259000
            clear HO_259001
            clear HO_266000
            clear HO_266001
            clear HO294
            clear HO297
            clear HO300
            clear HO303
            clear HO306
            clear HO309
            clear BK222
            clear BK223
            clear BK244
            clear BK251
            clear BK258
            clear BK265
            clear HB
            have HO_245000 := n0_
            have HO_245001 := n1_
            have HO_252000 := n2_
            have HO_252001 := n3_
            have HO_259000 := n4_
            have HO_259001 := n5_
            have HO_266000 := n6_
            have HO_266001 := n7_
            have HO294 := n8_
            have HO297 := n9_
            have HO300 := n10_
            have HO303 := n11_
            have HO306 := n12_
            have HO309 := n13_
            have BK222 := n14_
            have BK223 := n15_
            have BK244 := n16_
            have BK251 := n17_
            have BK258 := n18_
            have BK265 := n19_
            have HB := n20_
            have BK310 := n21_
            have GW310 := n22_
            have GE310 := n23_
            have NB222_310 := n24_
            have NB310_222 := n25_
            have NB223_310 := n26_
            have NB310_223 := n27_
            have NB244_310 := n28_
            have NB310_244 := n29_
            have NB251_310 := n30_
            have NB310_251 := n31_
            have NB258_310 := n32_
            have NB310_258 := n33_
            have NB265_310 := n34_
            have NB310_265 := n35_
            clear n0_ n1_ n2_ n3_ n4_ n5_ n6_ n7_ n8_ n9_ n10_ n11_ n12_ n13_ n14_ n15_ n16_ n17_ n18_ n19_ n20_ n21_ n22_ n23_ n24_ n25_ n26_ n27_ n28_ n29_ n30_ n31_ n32_ n33_ n34_ n35_
            clear hb hbox hg
            refine hK.out _ _ ⟨(blk_cell BK222.out 0).trans rfl, (blk_cell BK222.out 1).trans rfl, (blk_cell BK223.out 0).trans rfl, (blk_cell BK223.out 1).trans rfl⟩ (fun hHeld => ?_)
            clear hK K
            refine norm_ (a' := ?_) ?_ ?_
            rotate_left
            ·show Act.put _ (some 13) _ = _
             simp only [Act.put, List.setIfInBounds_toArray, List.set_cons_zero, List.set_cons_succ, i64_w, i32_w]
             rfl
            exact norm_ (by simp only [putAll, Act.put, List.setIfInBounds_toArray, List.set_cons_zero, List.set_cons_succ]) (hCont (.slice Ao144 t292.length co144, .slice Ao145 t295.length co145, .slice Ao146 t298.length co146, .slice Ao147 t301.length co147, v305, v308, gb310) _ ⟨hHeld, (by (with_reducible repeat (first | apply Kd.R_alloc | apply Kd.R_drewN | apply Kd.R_drew)); exact Kd.R_mono HO294.out (fun _ hk => ⟨(gives hk), ⟨hk.2, ⟨(gives hk), ⟨(gives hk), ⟨(gives hk), (gives hk)⟩⟩⟩⟩⟩)), (by (with_reducible repeat (first | apply Kd.R_alloc | apply Kd.R_drewN | apply Kd.R_drew)); exact Kd.R_mono HO297.out (fun _ hk => ⟨(gives hk), ⟨hk.2, ⟨(gives hk), ⟨(gives hk), ⟨(gives hk), (gives hk)⟩⟩⟩⟩⟩)), (by (with_reducible repeat (first | apply Kd.R_alloc | apply Kd.R_drewN | apply Kd.R_drew)); exact Kd.R_mono HO300.out (fun _ hk => ⟨(gives hk), ⟨hk.2, ⟨(gives hk), ⟨(gives hk), ⟨(gives hk), (gives hk)⟩⟩⟩⟩⟩)), (by (with_reducible repeat (first | apply Kd.R_alloc | apply Kd.R_drewN | apply Kd.R_drew)); exact Kd.R_mono HO303.out (fun _ hk => ⟨(gives hk), ⟨hk.2, ⟨(gives hk), ⟨(gives hk), ⟨(gives hk), (gives hk)⟩⟩⟩⟩⟩)), (by (with_reducible repeat (first | apply Kd.R_alloc | apply Kd.R_drewN | apply Kd.R_drew)); exact Kd.R_mono HO306.out (fun _ hk => ⟨(gives hk), ⟨hk.2, ⟨(gives hk), ⟨(gives hk), ⟨(gives hk), (gives hk)⟩⟩⟩⟩⟩)), (by (with_reducible repeat (first | apply Kd.R_alloc | apply Kd.R_drewN | apply Kd.R_drew)); exact Kd.R_mono HO309.out (fun _ hk => ⟨(gives hk), ⟨hk.2, ⟨(gives hk), ⟨(gives hk), ⟨(gives hk), (gives hk)⟩⟩⟩⟩⟩)), (by (with_reducible repeat (first | apply Kd.R_alloc | apply Kd.R_drewN | apply Kd.R_drew)); exact Kd.R_mono HO_245000.out (fun _ hk => ⟨(gives hk), ⟨(gives hk), ⟨hk.2, ⟨(gives hk), ⟨(gives hk), (gives hk)⟩⟩⟩⟩⟩)), (by (with_reducible repeat (first | apply Kd.R_alloc | apply Kd.R_drewN | apply Kd.R_drew)); exact Kd.R_mono HO_245001.out (fun _ hk => ⟨(gives hk), ⟨(gives hk), ⟨hk.2, ⟨(gives hk), ⟨(gives hk), (gives hk)⟩⟩⟩⟩⟩)), (by (with_reducible repeat (first | apply Kd.R_alloc | apply Kd.R_drewN | apply Kd.R_drew)); exact Kd.R_mono HO_252000.out (fun _ hk => ⟨(gives hk), ⟨(gives hk), ⟨hk.2, ⟨(gives hk), ⟨(gives hk), (gives hk)⟩⟩⟩⟩⟩)), (by (with_reducible repeat (first | apply Kd.R_alloc | apply Kd.R_drewN | apply Kd.R_drew)); exact Kd.R_mono HO_252001.out (fun _ hk => ⟨(gives hk), ⟨(gives hk), ⟨hk.2, ⟨(gives hk), ⟨(gives hk), (gives hk)⟩⟩⟩⟩⟩)), (by (with_reducible repeat (first | apply Kd.R_alloc | apply Kd.R_drewN | apply Kd.R_drew)); exact Kd.R_mono HO_259000.out (fun _ hk => ⟨(gives hk), ⟨(gives hk), ⟨hk.2, ⟨(gives hk), ⟨(gives hk), (gives hk)⟩⟩⟩⟩⟩)), (by (with_reducible repeat (first | apply Kd.R_alloc | apply Kd.R_drewN | apply Kd.R_drew)); exact Kd.R_mono HO_259001.out (fun _ hk => ⟨(gives hk), ⟨(gives hk), ⟨hk.2, ⟨(gives hk), ⟨(gives hk), (gives hk)⟩⟩⟩⟩⟩)), (by (with_reducible repeat (first | apply Kd.R_alloc | apply Kd.R_drewN | apply Kd.R_drew)); exact Kd.R_mono HO_266000.out (fun _ hk => ⟨(gives hk), ⟨(gives hk), ⟨hk.2, ⟨(gives hk), ⟨(gives hk), (gives hk)⟩⟩⟩⟩⟩)), (by (with_reducible repeat (first | apply Kd.R_alloc | apply Kd.R_drewN | apply Kd.R_drew)); exact Kd.R_mono HO_266001.out (fun _ hk => ⟨(gives hk), ⟨(gives hk), ⟨hk.2, ⟨(gives hk), ⟨(gives hk), (gives hk)⟩⟩⟩⟩⟩)), (bTo BK222.out), (bTo BK223.out), (bTo BK244.out), (bTo BK251.out), (bTo BK258.out), (bTo BK265.out), (bTo BK310.out), GW310.out, GE310.out, NB222_310.out, NB310_222.out, NB223_310.out, NB310_223.out, NB244_310.out, NB310_244.out, NB251_310.out, NB310_251.out, NB258_310.out, NB310_258.out, NB265_310.out, NB310_265.out, (by repeat (first | (with_reducible first | exact HB.out | apply below_alloc | apply pw_below_drewN | apply below_drew1 | refine below_set ?_ GE222.out | refine below_set ?_ GE223.out | refine below_set ?_ GE244.out | refine below_set ?_ GE251.out | refine below_set ?_ GE258.out | refine below_set ?_ GE265.out | refine below_set ?_ GE310.out) | exact HB.out))⟩)
           ·skip
            refine box_step ?hg (N := 13) ?hd (cs := #[.slice none 0 0, .slice none 0 0]) (t := 26) ?hr ?_; (case hd => rfl); (case hg => rfl); (case hr => first | (go_simp; done) | (go_simp; rfl))
            intro gb310 hg w144 hbox hb
            have n0_ := ak (Kd.R_below (rTo HO_245000.out) hb)
            have n1_ := ak (Kd.R_below (rTo HO_245001.out) hb)
            have n2_ := ak (Kd.R_below (rTo HO_252000.out) hb)
            have n3_ := ak (Kd.R_below (rTo HO_252001.out) hb)
            have n4_ := ak (Kd.R_below (rTo HO_259000.out) hb)
            have n5_ := ak (Kd.R_below (rTo HO_259001.out) hb)
            have n6_ := ak (Kd.R_below (rTo HO_266000.out) hb)
            have n7_ := ak (Kd.R_below (rTo HO_266001.out) hb)
            have n8_ := ak (Kd.R_below (rTo HO294.out) hb)
            have n9_ := ak (Kd.R_below (rTo HO297.out) hb)
            have n10_ := ak (Kd.R_below (rTo HO300.out) hb)
            have n11_ := ak (Kd.R_below (rTo HO303.out) hb)
            have n12_ := ak (blk_below (g := gb222) (o := .cells #[.slice A0_0 l0_0.length c0_0, .slice A0_1 l0_1.length c0_1] 41 (0, 0)) (bTo BK222.out) hb)
            have n13_ := ak (blk_below (g := gb223) (o := .cells #[.slice A1_0 l1_0.length c1_0, .slice A1_1 l1_1.length c1_1] 41 (0, 0)) (bTo BK223.out) hb)
            have n14_ := ak (blk_below (g := gb244) (o := .cells #[.slice Ao53 t238.length co53, .slice Ao55 t241.length co55] 26 (0, 0)) (bTo BK244.out) hb)
            have n15_ := ak (blk_below (g := gb251) (o := .cells #[.slice Ao61 t282.length co61, .slice Ao66 t283.length co66] 26 (0, 0)) (bTo BK251.out) hb)
            have n16_ := ak (blk_below (g := gb258) (o := .cells #[.slice Ao71 t285.length co71, .slice Ao77 t286.length co77] 26 (0, 0)) (bTo BK258.out) hb)
            have n17_ := ak (blk_below (g := gb265) (o := .cells #[.slice Ao81 t259.length co81, .slice Ao88 t262.length co88] 26 (0, 0)) (bTo BK265.out) hb)
            have n18_ := ak (below_step (by repeat (first | (with_reducible first | exact HB.out | apply below_alloc | apply pw_below_drewN | apply below_drew1 | refine below_set ?_ GE222.out | refine below_set ?_ GE223.out | refine below_set ?_ GE244.out | refine below_set ?_ GE251.out | refine below_set ?_ GE258.out | refine below_set ?_ GE265.out) | exact HB.out)) hb)
            have n19_ := ak (hbox)
            have n20_ := ak ((by rw [hg]; exact (below_size (by repeat (first | (with_reducible first | exact HB.out | apply below_alloc | apply pw_below_drewN | apply below_drew1 | refine below_set ?_ GE222.out | refine below_set ?_ GE223.out | refine below_set ?_ GE244.out | refine below_set ?_ GE251.out | refine below_set ?_ GE258.out | refine below_set ?_ GE265.out) | exact HB.out))) : w.heap.size ≤ gb310))
            have n21_ := ak ((by rw [hg]; exact (below_size (by repeat (first | (with_reducible first | exact HB.out | apply below_alloc | apply pw_below_drewN | apply below_drew1 | refine below_set ?_ GE222.out | refine below_set ?_ GE223.out | refine below_set ?_ GE244.out | refine below_set ?_ GE251.out | refine below_set ?_ GE258.out | refine below_set ?_ GE265.out) | exact HB.out))) : w.heap.size ≤ gb310))
            have n22_ := ak ((by rw [hg]; exact Nat.ne_of_lt (blk_lt (g := gb222) (o := .cells #[.slice A0_0 l0_0.length c0_0, .slice A0_1 l0_1.length c0_1] 41 (0, 0)) (bTo BK222.out)) : gb222 ≠ gb310))
            have n23_ := ak ((by rw [hg]; exact Nat.ne_of_gt (blk_lt (g := gb222) (o := .cells #[.slice A0_0 l0_0.length c0_0, .slice A0_1 l0_1.length c0_1] 41 (0, 0)) (bTo BK222.out)) : gb310 ≠ gb222))
            have n24_ := ak ((by rw [hg]; exact Nat.ne_of_lt (blk_lt (g := gb223) (o := .cells #[.slice A1_0 l1_0.length c1_0, .slice A1_1 l1_1.length c1_1] 41 (0, 0)) (bTo BK223.out)) : gb223 ≠ gb310))
            have n25_ := ak ((by rw [hg]; exact Nat.ne_of_gt (blk_lt (g := gb223) (o := .cells #[.slice A1_0 l1_0.length c1_0, .slice A1_1 l1_1.length c1_1] 41 (0, 0)) (bTo BK223.out)) : gb310 ≠ gb223))
            have n26_ := ak ((by rw [hg]; exact Nat.ne_of_lt (blk_lt (g := gb244) (o := .cells #[.slice Ao53 t238.length co53, .slice Ao55 t241.length co55] 26 (0, 0)) (bTo BK244.out)) : gb244 ≠ gb310))
            have n27_ := ak ((by rw [hg]; exact Nat.ne_of_gt (blk_lt (g := gb244) (o := .cells #[.slice Ao53 t238.length co53, .slice Ao55 t241.length co55] 26 (0, 0)) (bTo BK244.out)) : gb310 ≠ gb244))
            have n28_ := ak ((by rw [hg]; exact Nat.ne_of_lt (blk_lt (g := gb251) (o := .cells #[.slice Ao61 t282.length co61, .slice Ao66 t283.length co66] 26 (0, 0)) (bTo BK251.out)) : gb251 ≠ gb310))
            have n29_ := ak ((by rw [hg]; exact Nat.ne_of_gt (blk_lt (g := gb251) (o := .cells #[.slice Ao61 t282.length co61, .slice Ao66 t283.length co66] 26 (0, 0)) (bTo BK251.out)) : gb310 ≠ gb251))
            have n30_ := ak ((by rw [hg]; exact Nat.ne_of_lt (blk_lt (g := gb258) (o := .cells #[.slice Ao71 t285.length co71, .slice Ao77 t286.length co77] 26 (0, 0)) (bTo BK258.out)) : gb258 ≠ gb310))
            have n31_ := ak ((by rw [hg]; exact Nat.ne_of_gt (blk_lt (g := gb258) (o := .cells #[.slice Ao71 t285.length co71, .slice Ao77 t286.length co77] 26 (0, 0)) (bTo BK258.out)) : gb310 ≠ gb258))
            have n32_ := ak ((by rw [hg]; exact Nat.ne_of_lt (blk_lt (g := gb265) (o := .cells #[.slice Ao81 t259.length co81, .slice Ao88 t262.length co88] 26 (0, 0)) (bTo BK265.out)) : gb265 ≠ gb310))
            have n33_ := ak ((by rw [hg]; exact Nat.ne_of_gt (blk_lt (g := gb265) (o := .cells #[.slice Ao81 t259.length co81, .slice Ao88 t262.length co88] 26 (0, 0)) (bTo BK265.out)) : gb310 ≠ gb265))
            clear HO_245000
            clear HO_245001
            clear HO_252000
            clear HO_252001
            clear HO_259000
            clear HO_259001
            clear HO_266000
            clear HO_266001
            clear HO294
            clear HO297
            clear HO300
            clear HO303
            clear BK222
            clear BK223
            clear BK244
            clear BK251
            clear BK258
            clear BK265
            clear HB
            have HO_245000 := n0_
            have HO_245001 := n1_
            have HO_252000 := n2_
            have HO_252001 := n3_
            have HO_259000 := n4_
            have HO_259001 := n5_
            have HO_266000 := n6_
            have HO_266001 := n7_
            have HO294 := n8_
            have HO297 := n9_
            have HO300 := n10_
            have HO303 := n11_
            have BK222 := n12_
            have BK223 := n13_
            have BK244 := n14_
            have BK251 := n15_
            have BK258 := n16_
            have BK265 := n17_
            have HB := n18_
            have BK310 := n19_
            have GW310 := n20_
            have GE310 := n21_
            have NB222_310 := n22_
            have NB310_222 := n23_
            have NB223_310 := n24_
            have NB310_223 := n25_
            have NB244_310 := n26_
            have NB310_244 := n27_
            have NB251_310 := n28_
            have NB310_251 := n29_
            have NB258_310 := n30_
            have NB310_258 := n31_
            have NB265_310 := n32_
            have NB310_265 := n33_
            clear n0_ n1_ n2_ n3_ n4_ n5_ n6_ n7_ n8_ n9_ n10_ n11_ n12_ n13_ n14_ n15_ n16_ n17_ n18_ n19_ n20_ n21_ n22_ n23_ n24_ n25_ n26_ n27_ n28_ n29_ n30_ n31_ n32_ n33_
            clear hb hbox hg
            obtain ⟨Ao145, co145, eo145⟩ := Kd.R_slice HO294.out
            (first | subst eo145 | (injection eo145 with f1_ f2_ f3_; have f4_ := f1_.symm; have f5_ := f3_.symm; clear f1_ f2_ f3_; subst f4_; subst f5_))
            obtain ⟨Ao146, co146, eo146⟩ := Kd.R_slice HO297.out
            (first | subst eo146 | (injection eo146 with f1_ f2_ f3_; have f4_ := f1_.symm; have f5_ := f3_.symm; clear f1_ f2_ f3_; subst f4_; subst f5_))
            obtain ⟨Ao147, co147, eo147⟩ := Kd.R_slice HO300.out
            (first | subst eo147 | (injection eo147 with f1_ f2_ f3_; have f4_ := f1_.symm; have f5_ := f3_.symm; clear f1_ f2_ f3_; subst f4_; subst f5_))
            obtain ⟨Ao148, co148, eo148⟩ := Kd.R_slice HO303.out
            (first | subst eo148 | (injection eo148 with f1_ f2_ f3_; have f4_ := f1_.symm; have f5_ := f3_.symm; clear f1_ f2_ f3_; subst f4_; subst f5_))
            refine hK.out _ _ ⟨(blk_cell BK222.out 0).trans rfl, (blk_cell BK222.out 1).trans rfl, (blk_cell BK223.out 0).trans rfl, (blk_cell BK223.out 1).trans rfl⟩ (fun hHeld => ?_)
            clear hK K
            refine norm_ (a' := ?_) ?_ ?_
            rotate_left
            ·show Act.put _ (some 13) _ = _
             simp only [Act.put, List.setIfInBounds_toArray, List.set_cons_zero, List.set_cons_succ, i64_w, i32_w]
             rfl
            refine one_ (i := 4) (N := some 79) #[true, true, true, true, true, true, false] rfl rfl (by kernel_rfl) (by decide) (fun K hK => ?_)
            refine goes_ Try.func19 (by kernel_rfl) rfl #[.agg #[.slice Ao145 t292.length co145, .slice Ao146 t295.length co146], .agg #[.slice Ao147 t298.length co147, .slice Ao148 t301.length co148]] (by rfl) rfl rfl (by (try simp only [List.map_toArray, List.map_cons, List.map_nil]); first | done | rfl | (simp only [List.length_drop, List.length_take]; rfl)) ?_
            with_reducible refine (impl_MergeReports.calls kj34 _ _ t292 _ _ t295 _ _ t298 _ _ t301 t304 t307 _ ?side1 ?side2 ?side3 ?side4 ?side5 ?side6 ?side7 ?side8 A126.out).mono ?_
            (case side1 => repeat (first | exact (Kd.R_reads' HO294.out).2.2 | (with_reducible refine Kd.C_alloc ?_ _) | (with_reducible refine Kd.C_drewN ?_ _) | (with_reducible refine Kd.C_drew ?_)))
            (case side2 => exact (Kd.R_reads' HO294.out).2.1)
            (case side3 => repeat (first | exact (Kd.R_reads' HO297.out).2.2 | (with_reducible refine Kd.C_alloc ?_ _) | (with_reducible refine Kd.C_drewN ?_ _) | (with_reducible refine Kd.C_drew ?_)))
            (case side4 => exact (Kd.R_reads' HO297.out).2.1)
            (case side5 => repeat (first | exact (Kd.R_reads' HO300.out).2.2 | (with_reducible refine Kd.C_alloc ?_ _) | (with_reducible refine Kd.C_drewN ?_ _) | (with_reducible refine Kd.C_drew ?_)))
            (case side6 => exact (Kd.R_reads' HO300.out).2.1)
            (case side7 => repeat (first | exact (Kd.R_reads' HO303.out).2.2 | (with_reducible refine Kd.C_alloc ?_ _) | (with_reducible refine Kd.C_drewN ?_ _) | (with_reducible refine Kd.C_drew ?_)))
            (case side8 => exact (Kd.R_reads' HO303.out).2.1)
            rintro e w149 ⟨v305, v308, rfl, ho0, ho1, hb⟩
            refine ⟨_, rfl, ?_⟩
            have n0_ := ak (Kd.R_elder' (rTo HO_245000.out) (Kd.R_base ho0) hb)
            have n1_ := ak (Kd.R_elder' (rTo HO_245001.out) (Kd.R_base ho1) hb)
            have n2_ := ak (Kd.R_elder' (rTo HO_252000.out) (Kd.R_base ho0) hb)
            have n3_ := ak (Kd.R_elder' (rTo HO_252001.out) (Kd.R_base ho1) hb)
            have n4_ := ak (Kd.R_elder' (rTo HO_259000.out) (Kd.R_base ho0) hb)
            have n5_ := ak (Kd.R_elder' (rTo HO_259001.out) (Kd.R_base ho1) hb)
            have n6_ := ak (Kd.R_elder' (rTo HO_266000.out) (Kd.R_base ho0) hb)
            have n7_ := ak (Kd.R_elder' (rTo HO_266001.out) (Kd.R_base ho1) hb)
            have n8_ := ak (Kd.R_elder' (rTo HO294.out) (Kd.R_base ho0) hb)
            have n9_ := ak (Kd.R_elder' (rTo HO297.out) (Kd.R_base ho1) hb)
            have n10_ := ak (Kd.R_elder' (rTo HO300.out) (Kd.R_base ho0) hb)
            have n11_ := ak (Kd.R_elder' (rTo HO303.out) (Kd.R_base ho1) hb)
            have n12_ := ak (Kd.R_lower (Kd.R_new' (Kd.R_new' (Kd.R_new' (Kd.R_new' (Kd.R_new' (Kd.R_new' ho0 (Kd.R_lt (rTo HO_245000.out))) (Kd.R_lt (rTo HO_252000.out))) (Kd.R_lt (rTo HO_259000.out))) (Kd.R_lt (rTo HO_266000.out))) (Kd.R_lt (rTo HO294.out))) (Kd.R_lt (rTo HO300.out))) (below_size (by repeat (first | (with_reducible first | exact HB.out | apply below_alloc | apply pw_below_drewN | apply below_drew1 | refine below_set ?_ GE222.out | refine below_set ?_ GE223.out | refine below_set ?_ GE244.out | refine below_set ?_ GE251.out | refine below_set ?_ GE258.out | refine below_set ?_ GE265.out | refine below_set ?_ GE310.out) | exact HB.out))))
            have n13_ := ak (Kd.R_lower (Kd.R_new' (Kd.R_new' (Kd.R_new' (Kd.R_new' (Kd.R_new' (Kd.R_new' ho1 (Kd.R_lt (rTo HO_245001.out))) (Kd.R_lt (rTo HO_252001.out))) (Kd.R_lt (rTo HO_259001.out))) (Kd.R_lt (rTo HO_266001.out))) (Kd.R_lt (rTo HO297.out))) (Kd.R_lt (rTo HO303.out))) (below_size (by repeat (first | (with_reducible first | exact HB.out | apply below_alloc | apply pw_below_drewN | apply below_drew1 | refine below_set ?_ GE222.out | refine below_set ?_ GE223.out | refine below_set ?_ GE244.out | refine below_set ?_ GE251.out | refine below_set ?_ GE258.out | refine below_set ?_ GE265.out | refine below_set ?_ GE310.out) | exact HB.out))))
            have n14_ := ak (blk_below (g := gb222) (o := .cells #[.slice A0_0 l0_0.length c0_0, .slice A0_1 l0_1.length c0_1] 41 (0, 0)) (bTo BK222.out) hb)
            have n15_ := ak (blk_below (g := gb223) (o := .cells #[.slice A1_0 l1_0.length c1_0, .slice A1_1 l1_1.length c1_1] 41 (0, 0)) (bTo BK223.out) hb)
            have n16_ := ak (blk_below (g := gb244) (o := .cells #[.slice Ao53 t238.length co53, .slice Ao55 t241.length co55] 26 (0, 0)) (bTo BK244.out) hb)
            have n17_ := ak (blk_below (g := gb251) (o := .cells #[.slice Ao61 t282.length co61, .slice Ao66 t283.length co66] 26 (0, 0)) (bTo BK251.out) hb)
            have n18_ := ak (blk_below (g := gb258) (o := .cells #[.slice Ao71 t285.length co71, .slice Ao77 t286.length co77] 26 (0, 0)) (bTo BK258.out) hb)
            have n19_ := ak (blk_below (g := gb265) (o := .cells #[.slice Ao81 t259.length co81, .slice Ao88 t262.length co88] 26 (0, 0)) (bTo BK265.out) hb)
            have n20_ := ak (blk_below (g := gb310) (o := .cells #[.slice none 0 0, .slice none 0 0] 26 (0, 0)) (bTo BK310.out) hb)
            have n21_ := ak (below_step (by repeat (first | (with_reducible first | exact HB.out | apply below_alloc | apply pw_below_drewN | apply below_drew1 | refine below_set ?_ GE222.out | refine below_set ?_ GE223.out | refine below_set ?_ GE244.out | refine below_set ?_ GE251.out | refine below_set ?_ GE258.out | refine below_set ?_ GE265.out | refine below_set ?_ GE310.out) | exact HB.out)) hb)
            clear HO_245000
            clear HO_245001
            clear HO_252000
            clear HO_252001
            clear HO_259000
            clear HO_259001
            clear HO_266000
            clear HO_266001
            clear HO294
            clear HO297
            clear HO300
            clear HO303
            clear BK222
            clear BK223
            clear BK244
            clear BK251
            clear BK258
            clear BK265
            clear BK310
            clear HB
            have HO_245000 := n0_
            have HO_245001 := n1_
            have HO_252000 := n2_
            have HO_252001 := n3_
            have HO_259000 := n4_
            have HO_259001 := n5_
            have HO_266000 := n6_
            have HO_266001 := n7_
            have HO294 := n8_
            have HO297 := n9_
            have HO300 := n10_
            have HO303 := n11_
            have HO306 := n12_
            have HO309 := n13_
            have BK222 := n14_
            have BK223 := n15_
            have BK244 := n16_
            have BK251 := n17_
            have BK258 := n18_
            have BK265 := n19_
            have BK310 := n20_
            have HB := n21_
            clear n0_ n1_ n2_ n3_ n4_ n5_ n6_ n7_ n8_ n9_ n10_ n11_ n12_ n13_ n14_ n15_ n16_ n17_ n18_ n19_ n20_ n21_
            (try clear hb)
            (try clear hb2)
            (try clear hk)
            (try clear hi)
            (try clear ho0)
            (try clear ho1)
            refine hK.out _ _ ⟨(blk_cell BK222.out 0).trans rfl, (blk_cell BK222.out 1).trans rfl, (blk_cell BK223.out 0).trans rfl, (blk_cell BK223.out 1).trans rfl⟩ (fun hHeld => ?_)
            clear hK K
            refine norm_ (a' := ?_) ?_ ?_
            rotate_left
            ·show Act.put _ (some 79) _ = _
             simp only [Act.put, List.setIfInBounds_toArray, List.set_cons_zero, List.set_cons_succ, i64_w, i32_w]
             rfl
            exact norm_ (by simp only [putAll, Act.put, List.setIfInBounds_toArray, List.set_cons_zero, List.set_cons_succ]) (hCont (.slice Ao145 t292.length co145, .slice Ao146 t295.length co146, .slice Ao147 t298.length co147, .slice Ao148 t301.length co148, v305, v308, gb310) _ ⟨hHeld, (by (with_reducible repeat (first | apply Kd.R_alloc | apply Kd.R_drewN | apply Kd.R_drew)); exact Kd.R_mono HO294.out (fun _ hk => ⟨(gives hk), ⟨hk.2, ⟨(gives hk), ⟨(gives hk), ⟨(gives hk), (gives hk)⟩⟩⟩⟩⟩)), (by (with_reducible repeat (first | apply Kd.R_alloc | apply Kd.R_drewN | apply Kd.R_drew)); exact Kd.R_mono HO297.out (fun _ hk => ⟨(gives hk), ⟨hk.2, ⟨(gives hk), ⟨(gives hk), ⟨(gives hk), (gives hk)⟩⟩⟩⟩⟩)), (by (with_reducible repeat (first | apply Kd.R_alloc | apply Kd.R_drewN | apply Kd.R_drew)); exact Kd.R_mono HO300.out (fun _ hk => ⟨(gives hk), ⟨hk.2, ⟨(gives hk), ⟨(gives hk), ⟨(gives hk), (gives hk)⟩⟩⟩⟩⟩)), (by (with_reducible repeat (first | apply Kd.R_alloc | apply Kd.R_drewN | apply Kd.R_drew)); exact Kd.R_mono HO303.out (fun _ hk => ⟨(gives hk), ⟨hk.2, ⟨(gives hk), ⟨(gives hk), ⟨(gives hk), (gives hk)⟩⟩⟩⟩⟩)), (by (with_reducible repeat (first | apply Kd.R_alloc | apply Kd.R_drewN | apply Kd.R_drew)); exact Kd.R_mono HO306.out (fun _ hk => ⟨(gives hk), ⟨hk.2, ⟨(gives hk), ⟨(gives hk), ⟨(gives hk), (gives hk)⟩⟩⟩⟩⟩)), (by (with_reducible repeat (first | apply Kd.R_alloc | apply Kd.R_drewN | apply Kd.R_drew)); exact Kd.R_mono HO309.out (fun _ hk => ⟨(gives hk), ⟨hk.2, ⟨(gives hk), ⟨(gives hk), ⟨(gives hk), (gives hk)⟩⟩⟩⟩⟩)), (by (with_reducible repeat (first | apply Kd.R_alloc | apply Kd.R_drewN | apply Kd.R_drew)); exact Kd.R_mono HO_245000.out (fun _ hk => ⟨(gives hk), ⟨(gives hk), ⟨hk.2, ⟨(gives hk), ⟨(gives hk), (gives hk)⟩⟩⟩⟩⟩)), (by (with_reducible repeat (first | apply Kd.R_alloc | apply Kd.R_drewN | apply Kd.R_drew)); exact Kd.R_mono HO_245001.out (fun _ hk => ⟨(gives hk), ⟨(gives hk), ⟨hk.2, ⟨(gives hk), ⟨(gives hk), (gives hk)⟩⟩⟩⟩⟩)), (by (with_reducible repeat (first | apply Kd.R_alloc | apply Kd.R_drewN | apply Kd.R_drew)); exact Kd.R_mono HO_252000.out (fun _ hk => ⟨(gives hk), ⟨(gives hk), ⟨hk.2, ⟨(gives hk), ⟨(gives hk), (gives hk)⟩⟩⟩⟩⟩)), (by (with_reducible repeat (first | apply Kd.R_alloc | apply Kd.R_drewN | apply Kd.R_drew)); exact Kd.R_mono HO_252001.out (fun _ hk => ⟨(gives hk), ⟨(gives hk), ⟨hk.2, ⟨(gives hk), ⟨(gives hk), (gives hk)⟩⟩⟩⟩⟩)), (by (with_reducible repeat (first | apply Kd.R_alloc | apply Kd.R_drewN | apply Kd.R_drew)); exact Kd.R_mono HO_259000.out (fun _ hk => ⟨(gives hk), ⟨(gives hk), ⟨hk.2, ⟨(gives hk), ⟨(gives hk), (gives hk)⟩⟩⟩⟩⟩)), (by (with_reducible repeat (first | apply Kd.R_alloc | apply Kd.R_drewN | apply Kd.R_drew)); exact Kd.R_mono HO_259001.out (fun _ hk => ⟨(gives hk), ⟨(gives hk), ⟨hk.2, ⟨(gives hk), ⟨(gives hk), (gives hk)⟩⟩⟩⟩⟩)), (by (with_reducible repeat (first | apply Kd.R_alloc | apply Kd.R_drewN | apply Kd.R_drew)); exact Kd.R_mono HO_266000.out (fun _ hk => ⟨(gives hk), ⟨(gives hk), ⟨hk.2, ⟨(gives hk), ⟨(gives hk), (gives hk)⟩⟩⟩⟩⟩)), (by (with_reducible repeat (first | apply Kd.R_alloc | apply Kd.R_drewN | apply Kd.R_drew)); exact Kd.R_mono HO_266001.out (fun _ hk => ⟨(gives hk), ⟨(gives hk), ⟨hk.2, ⟨(gives hk), ⟨(gives hk), (gives hk)⟩⟩⟩⟩⟩)), (bTo BK222.out), (bTo BK223.out), (bTo BK244.out), (bTo BK251.out), (bTo BK258.out), (bTo BK265.out), (bTo BK310.out), GW310.out, GE310.out, NB222_310.out, NB310_222.out, NB223_310.out, NB310_223.out, NB244_310.out, NB310_244.out, NB251_310.out, NB310_251.out, NB258_310.out, NB310_258.out, NB265_310.out, NB310_265.out, (by repeat (first | (with_reducible first | exact HB.out | apply below_alloc | apply pw_below_drewN | apply below_drew1 | refine below_set ?_ GE222.out | refine below_set ?_ GE223.out | refine below_set ?_ GE244.out | refine below_set ?_ GE251.out | refine below_set ?_ GE258.out | refine below_set ?_ GE265.out | refine below_set ?_ GE310.out) | exact HB.out))⟩)
          ·skip
           refine box_step ?hg (N := 13) ?hd (cs := #[.slice none 0 0, .slice none 0 0]) (t := 26) ?hr ?_; (case hd => rfl); (case hg => rfl); (case hr => first | (go_simp; done) | (go_simp; rfl))
           intro gb310 hg w143 hbox hb
           have n0_ := ak (Kd.R_below (rTo HO_245000.out) hb)
           have n1_ := ak (Kd.R_below (rTo HO_245001.out) hb)
           have n2_ := ak (Kd.R_below (rTo HO_252000.out) hb)
           have n3_ := ak (Kd.R_below (rTo HO_252001.out) hb)
           have n4_ := ak (Kd.R_below (rTo HO_259000.out) hb)
           have n5_ := ak (Kd.R_below (rTo HO_259001.out) hb)
           have n6_ := ak (Kd.R_below (rTo HO_266000.out) hb)
           have n7_ := ak (Kd.R_below (rTo HO_266001.out) hb)
           have n8_ := ak (Kd.R_below (rTo HO294.out) hb)
           have n9_ := ak (Kd.R_below (rTo HO297.out) hb)
           have n10_ := ak (blk_below (g := gb222) (o := .cells #[.slice A0_0 l0_0.length c0_0, .slice A0_1 l0_1.length c0_1] 41 (0, 0)) (bTo BK222.out) hb)
           have n11_ := ak (blk_below (g := gb223) (o := .cells #[.slice A1_0 l1_0.length c1_0, .slice A1_1 l1_1.length c1_1] 41 (0, 0)) (bTo BK223.out) hb)
           have n12_ := ak (blk_below (g := gb244) (o := .cells #[.slice Ao53 t238.length co53, .slice Ao55 t241.length co55] 26 (0, 0)) (bTo BK244.out) hb)
           have n13_ := ak (blk_below (g := gb251) (o := .cells #[.slice Ao61 t282.length co61, .slice Ao66 t283.length co66] 26 (0, 0)) (bTo BK251.out) hb)
           have n14_ := ak (blk_below (g := gb258) (o := .cells #[.slice Ao71 t285.length co71, .slice Ao77 t286.length co77] 26 (0, 0)) (bTo BK258.out) hb)
           have n15_ := ak (blk_below (g := gb265) (o := .cells #[.slice Ao81 t259.length co81, .slice Ao88 t262.length co88] 26 (0, 0)) (bTo BK265.out) hb)
           have n16_ := ak (below_step (by repeat (first | (with_reducible first | exact HB.out | apply below_alloc | apply pw_below_drewN | apply below_drew1 | refine below_set ?_ GE222.out | refine below_set ?_ GE223.out | refine below_set ?_ GE244.out | refine below_set ?_ GE251.out | refine below_set ?_ GE258.out | refine below_set ?_ GE265.out) | exact HB.out)) hb)
           have n17_ := ak (hbox)
           have n18_ := ak ((by rw [hg]; exact (below_size (by repeat (first | (with_reducible first | exact HB.out | apply below_alloc | apply pw_below_drewN | apply below_drew1 | refine below_set ?_ GE222.out | refine below_set ?_ GE223.out | refine below_set ?_ GE244.out | refine below_set ?_ GE251.out | refine below_set ?_ GE258.out | refine below_set ?_ GE265.out) | exact HB.out))) : w.heap.size ≤ gb310))
           have n19_ := ak ((by rw [hg]; exact (below_size (by repeat (first | (with_reducible first | exact HB.out | apply below_alloc | apply pw_below_drewN | apply below_drew1 | refine below_set ?_ GE222.out | refine below_set ?_ GE223.out | refine below_set ?_ GE244.out | refine below_set ?_ GE251.out | refine below_set ?_ GE258.out | refine below_set ?_ GE265.out) | exact HB.out))) : w.heap.size ≤ gb310))
           have n20_ := ak ((by rw [hg]; exact Nat.ne_of_lt (blk_lt (g := gb222) (o := .cells #[.slice A0_0 l0_0.length c0_0, .slice A0_1 l0_1.length c0_1] 41 (0, 0)) (bTo BK222.out)) : gb222 ≠ gb310))
           have n21_ := ak ((by rw [hg]; exact Nat.ne_of_gt (blk_lt (g := gb222) (o := .cells #[.slice A0_0 l0_0.length c0_0, .slice A0_1 l0_1.length c0_1] 41 (0, 0)) (bTo BK222.out)) : gb310 ≠ gb222))
           have n22_ := ak ((by rw [hg]; exact Nat.ne_of_lt (blk_lt (g := gb223) (o := .cells #[.slice A1_0 l1_0.length c1_0, .slice A1_1 l1_1.length c1_1] 41 (0, 0)) (bTo BK223.out)) : gb223 ≠ gb310))
           have n23_ := ak ((by rw [hg]; exact Nat.ne_of_gt (blk_lt (g := gb223) (o := .cells #[.slice A1_0 l1_0.length c1_0, .slice A1_1 l1_1.length c1_1] 41 (0, 0)) (bTo BK223.out)) : gb310 ≠ gb223))
           have n24_ := ak ((by rw [hg]; exact Nat.ne_of_lt (blk_lt (g := gb244) (o := .cells #[.slice Ao53 t238.length co53, .slice Ao55 t241.length co55] 26 (0, 0)) (bTo BK244.out)) : gb244 ≠ gb310))
           have n25_ := ak ((by rw [hg]; exact Nat.ne_of_gt (blk_lt (g := gb244) (o := .cells #[.slice Ao53 t238.length co53, .slice Ao55 t241.length co55] 26 (0, 0)) (bTo BK244.out)) : gb310 ≠ gb244))
           have n26_ := ak ((by rw [hg]; exact Nat.ne_of_lt (blk_lt (g := gb251) (o := .cells #[.slice Ao61 t282.length co61, .slice Ao66 t283.length co66] 26 (0, 0)) (bTo BK251.out)) : gb251 ≠ gb310))
           have n27_ := ak ((by rw [hg]; exact Nat.ne_of_gt (blk_lt (g := gb251) (o := .cells #[.slice Ao61 t282.length co61, .slice Ao66 t283.length co66] 26 (0, 0)) (bTo BK251.out)) : gb310 ≠ gb251))
           have n28_ := ak ((by rw [hg]; exact Nat.ne_of_lt (blk_lt (g := gb258) (o := .cells #[.slice Ao71 t285.length co71, .slice Ao77 t286.length co77] 26 (0, 0)) (bTo BK258.out)) : gb258 ≠ gb310))
           have n29_ := ak ((by rw [hg]; exact Nat.ne_of_gt (blk_lt (g := gb258) (o := .cells #[.slice Ao71 t285.length co71, .slice Ao77 t286.length co77] 26 (0, 0)) (bTo BK258.out)) : gb310 ≠ gb258))
           have n30_ := ak ((by rw [hg]; exact Nat.ne_of_lt (blk_lt (g := gb265) (o := .cells #[.slice Ao81 t259.length co81, .slice Ao88 t262.length co88] 26 (0, 0)) (bTo BK265.out)) : gb265 ≠ gb310))
           have n31_ := ak ((by rw [hg]; exact Nat.ne_of_gt (blk_lt (g := gb265) (o := .cells #[.slice Ao81 t259.length co81, .slice Ao88 t262.length co88] 26 (0, 0)) (bTo BK265.out)) : gb310 ≠ gb265))
           clear HO_245000
           clear HO_245001
           clear HO_252000
           clear HO_252001
           clear HO_259000
           clear HO_259001
           clear HO_266000
           clear HO_266001
           clear HO294
           clear HO297
           clear BK222
           clear BK223
           clear BK244
           clear BK251
           clear BK258
           clear BK265
           clear HB
           have HO_245000 := n0_
           have HO_245001 := n1_
           have HO_252000 := n2_
           have HO_252001 := n3_
           have HO_259000 := n4_
           have HO_259001 := n5_
           have HO_266000 := n6_
           have HO_266001 := n7_
           have HO294 := n8_
           have HO297 := n9_
           have BK222 := n10_
           have BK223 := n11_
           have BK244 := n12_
           have BK251 := n13_
           have BK258 := n14_
           have BK265 := n15_
           have HB := n16_
           have BK310 := n17_
           have GW310 := n18_
           have GE310 := n19_
           have NB222_310 := n20_
           have NB310_222 := n21_
           have NB223_310 := n22_
           have NB310_223 := n23_
           have NB244_310 := n24_
           have NB310_244 := n25_
           have NB251_310 := n26_
           have NB310_251 := n27_
           have NB258_310 := n28_
           have NB310_258 := n29_
           have NB265_310 := n30_
           have NB310_265 := n31_
           clear n0_ n1_ n2_ n3_ n4_ n5_ n6_ n7_ n8_ n9_ n10_ n11_ n12_ n13_ n14_ n15_ n16_ n17_ n18_ n19_ n20_ n21_ n22_ n23_ n24_ n25_ n26_ n27_ n28_ n29_ n30_ n31_
           clear hb hbox hg
           refine hK.out _ _ ⟨(blk_cell BK222.out 0).trans rfl, (blk_cell BK222.out 1).trans rfl, (blk_cell BK223.out 0).trans rfl, (blk_cell BK223.out 1).trans rfl⟩ (fun hHeld => ?_)
           clear hK K
           refine norm_ (a' := ?_) ?_ ?_
           rotate_left
           ·show Act.put _ (some 13) _ = _
            simp only [Act.put, List.setIfInBounds_toArray, List.set_cons_zero, List.set_cons_succ, i64_w, i32_w]
            rfl
           refine one_ (i := 3) (N := some 78) #[true, true, true, true, false, true, false] rfl rfl (by kernel_rfl) (by decide) (fun K hK => ?_)
           refine goes_ Try.func25 (by kernel_rfl) rfl #[.agg #[.slice A1_0 l1_0.length c1_0, .slice A1_1 l1_1.length c1_1]] (by rfl) rfl rfl (by (try simp only [List.map_toArray, List.map_cons, List.map_nil]); first | done | rfl | (simp only [List.length_drop, List.length_take]; rfl)) ?_
           with_reducible refine (laws_toReport.calls kj34 _ _ l1_0 _ _ l1_1 t298 t301 _ ?side1 ?side2 ?side3 ?side4 A125.out).mono ?_
           (case side1 => repeat (first | exact (Kd.C_below HR1_0.out HB.out) | (with_reducible refine Kd.C_alloc ?_ _) | (with_reducible refine Kd.C_drewN ?_ _) | (with_reducible refine Kd.C_drew ?_)))
           (case side2 => exact HC1_0.out)
           (case side3 => repeat (first | exact (Kd.C_below HR1_1.out HB.out) | (with_reducible refine Kd.C_alloc ?_ _) | (with_reducible refine Kd.C_drewN ?_ _) | (with_reducible refine Kd.C_drew ?_)))
           (case side4 => exact HC1_1.out)
           rintro e w144 ⟨v299, v302, rfl, ho0, ho1, hb⟩
           refine ⟨_, rfl, ?_⟩
           have n0_ := ak (Kd.R_elder' (rTo HO_245000.out) (Kd.R_base ho0) hb)
           have n1_ := ak (Kd.R_elder' (rTo HO_245001.out) (Kd.R_base ho1) hb)
           have n2_ := ak (Kd.R_elder' (rTo HO_252000.out) (Kd.R_base ho0) hb)
           have n3_ := ak (Kd.R_elder' (rTo HO_252001.out) (Kd.R_base ho1) hb)
           have n4_ := ak (Kd.R_elder' (rTo HO_259000.out) (Kd.R_base ho0) hb)
           have n5_ := ak (Kd.R_elder' (rTo HO_259001.out) (Kd.R_base ho1) hb)
           have n6_ := ak (Kd.R_elder' (rTo HO_266000.out) (Kd.R_base ho0) hb)
           have n7_ := ak (Kd.R_elder' (rTo HO_266001.out) (Kd.R_base ho1) hb)
           have n8_ := ak (Kd.R_elder' (rTo HO294.out) (Kd.R_base ho0) hb)
           have n9_ := ak (Kd.R_elder' (rTo HO297.out) (Kd.R_base ho1) hb)
           have n10_ := ak (Kd.R_lower (Kd.R_new' (Kd.R_new' (Kd.R_new' (Kd.R_new' (Kd.R_new' ho0 (Kd.R_lt (rTo HO_245000.out))) (Kd.R_lt (rTo HO_252000.out))) (Kd.R_lt (rTo HO_259000.out))) (Kd.R_lt (rTo HO_266000.out))) (Kd.R_lt (rTo HO294.out))) (below_size (by repeat (first | (with_reducible first | exact HB.out | apply below_alloc | apply pw_below_drewN | apply below_drew1 | refine below_set ?_ GE222.out | refine below_set ?_ GE223.out | refine below_set ?_ GE244.out | refine below_set ?_ GE251.out | refine below_set ?_ GE258.out | refine below_set ?_ GE265.out | refine below_set ?_ GE310.out) | exact HB.out))))
           have n11_ := ak (Kd.R_lower (Kd.R_new' (Kd.R_new' (Kd.R_new' (Kd.R_new' (Kd.R_new' ho1 (Kd.R_lt (rTo HO_245001.out))) (Kd.R_lt (rTo HO_252001.out))) (Kd.R_lt (rTo HO_259001.out))) (Kd.R_lt (rTo HO_266001.out))) (Kd.R_lt (rTo HO297.out))) (below_size (by repeat (first | (with_reducible first | exact HB.out | apply below_alloc | apply pw_below_drewN | apply below_drew1 | refine below_set ?_ GE222.out | refine below_set ?_ GE223.out | refine below_set ?_ GE244.out | refine below_set ?_ GE251.out | refine below_set ?_ GE258.out | refine below_set ?_ GE265.out | refine below_set ?_ GE310.out) | exact HB.out))))
           have n12_ := ak (blk_below (g := gb222) (o := .cells #[.slice A0_0 l0_0.length c0_0, .slice A0_1 l0_1.length c0_1] 41 (0, 0)) (bTo BK222.out) hb)
           have n13_ := ak (blk_below (g := gb223) (o := .cells #[.slice A1_0 l1_0.length c1_0, .slice A1_1 l1_1.length c1_1] 41 (0, 0)) (bTo BK223.out) hb)
           have n14_ := ak (blk_below (g := gb244) (o := .cells #[.slice Ao53 t238.length co53, .slice Ao55 t241.length co55] 26 (0, 0)) (bTo BK244.out) hb)
           have n15_ := ak (blk_below (g := gb251) (o := .cells #[.slice Ao61 t282.length co61, .slice Ao66 t283.length co66] 26 (0, 0)) (bTo BK251.out) hb)
           have n16_ := ak (blk_below (g := gb258) (o := .cells #[.slice Ao71 t285.length co71, .slice Ao77 t286.length co77] 26 (0, 0)) (bTo BK258.out) hb)
           have n17_ := ak (blk_below (g := gb265) (o := .cells #[.slice Ao81 t259.length co81, .slice Ao88 t262.length co88] 26 (0, 0)) (bTo BK265.out) hb)
           have n18_ := ak (blk_below (g := gb310) (o := .cells #[.slice none 0 0, .slice none 0 0] 26 (0, 0)) (bTo BK310.out) hb)
           have n19_ := ak (below_step (by repeat (first | (with_reducible first | exact HB.out | apply below_alloc | apply pw_below_drewN | apply below_drew1 | refine below_set ?_ GE222.out | refine below_set ?_ GE223.out | refine below_set ?_ GE244.out | refine below_set ?_ GE251.out | refine below_set ?_ GE258.out | refine below_set ?_ GE265.out | refine below_set ?_ GE310.out) | exact HB.out)) hb)
           clear HO_245000
           clear HO_245001
           clear HO_252000
           clear HO_252001
           clear HO_259000
           clear HO_259001
           clear HO_266000
           clear HO_266001
           clear HO294
           clear HO297
           clear BK222
           clear BK223
           clear BK244
           clear BK251
           clear BK258
           clear BK265
           clear BK310
           clear HB
           have HO_245000 := n0_
           have HO_245001 := n1_
           have HO_252000 := n2_
           have HO_252001 := n3_
           have HO_259000 := n4_
           have HO_259001 := n5_
           have HO_266000 := n6_
           have HO_266001 := n7_
           have HO294 := n8_
           have HO297 := n9_
           have HO300 := n10_
           have HO303 := n11_
           have BK222 := n12_
           have BK223 := n13_
           have BK244 := n14_
           have BK251 := n15_
           have BK258 := n16_
           have BK265 := n17_
           have BK310 := n18_
           have HB := n19_
           clear n0_ n1_ n2_ n3_ n4_ n5_ n6_ n7_ n8_ n9_ n10_ n11_ n12_ n13_ n14_ n15_ n16_ n17_ n18_ n19_
           (try clear hb)
           (try clear hb2)
           (try clear hk)
           (try clear hi)
           (try clear ho0)
           (try clear ho1)
           obtain ⟨Ao145, co145, eo145⟩ := Kd.R_slice HO294.out
           (first | subst eo145 | (injection eo145 with f1_ f2_ f3_; have f4_ := f1_.symm; have f5_ := f3_.symm; clear f1_ f2_ f3_; subst f4_; subst f5_))
           obtain ⟨Ao146, co146, eo146⟩ := Kd.R_slice HO297.out
           (first | subst eo146 | (injection eo146 with f1_ f2_ f3_; have f4_ := f1_.symm; have f5_ := f3_.symm; clear f1_ f2_ f3_; subst f4_; subst f5_))
           obtain ⟨Ao147, co147, eo147⟩ := Kd.R_slice HO300.out
           (first | subst eo147 | (injection eo147 with f1_ f2_ f3_; have f4_ := f1_.symm; have f5_ := f3_.symm; clear f1_ f2_ f3_; subst f4_; subst f5_))
           obtain ⟨Ao148, co148, eo148⟩ := Kd.R_slice HO303.out
           (first | subst eo148 | (injection eo148 with f1_ f2_ f3_; have f4_ := f1_.symm; have f5_ := f3_.symm; clear f1_ f2_ f3_; subst f4_; subst f5_))
           refine hK.out _ _ ⟨(blk_cell BK222.out 0).trans rfl, (blk_cell BK222.out 1).trans rfl, (blk_cell BK223.out 0).trans rfl, (blk_cell BK223.out 1).trans rfl⟩ (fun hHeld => ?_)
           clear hK K
           refine norm_ (a' := ?_) ?_ ?_
           rotate_left
           ·show Act.put _ (some 78) _ = _
            simp only [Act.put, List.setIfInBounds_toArray, List.set_cons_zero, List.set_cons_succ, i64_w, i32_w]
            rfl
           refine one_ (i := 4) (N := some 79) #[true, true, true, true, true, true, false] rfl rfl (by kernel_rfl) (by decide) (fun K hK => ?_)
           refine goes_ Try.func19 (by kernel_rfl) rfl #[.agg #[.slice Ao145 t292.length co145, .slice Ao146 t295.length co146], .agg #[.slice Ao147 t298.length co147, .slice Ao148 t301.length co148]] (by rfl) rfl rfl (by (try simp only [List.map_toArray, List.map_cons, List.map_nil]); first | done | rfl | (simp only [List.length_drop, List.length_take]; rfl)) ?_
           with_reducible refine (impl_MergeReports.calls kj34 _ _ t292 _ _ t295 _ _ t298 _ _ t301 t304 t307 _ ?side1 ?side2 ?side3 ?side4 ?side5 ?side6 ?side7 ?side8 A126.out).mono ?_
           (case side1 => repeat (first | exact (Kd.R_reads' HO294.out).2.2 | (with_reducible refine Kd.C_alloc ?_ _) | (with_reducible refine Kd.C_drewN ?_ _) | (with_reducible refine Kd.C_drew ?_)))
           (case side2 => exact (Kd.R_reads' HO294.out).2.1)
           (case side3 => repeat (first | exact (Kd.R_reads' HO297.out).2.2 | (with_reducible refine Kd.C_alloc ?_ _) | (with_reducible refine Kd.C_drewN ?_ _) | (with_reducible refine Kd.C_drew ?_)))
           (case side4 => exact (Kd.R_reads' HO297.out).2.1)
           (case side5 => repeat (first | exact (Kd.R_reads' HO300.out).2.2 | (with_reducible refine Kd.C_alloc ?_ _) | (with_reducible refine Kd.C_drewN ?_ _) | (with_reducible refine Kd.C_drew ?_)))
           (case side6 => exact (Kd.R_reads' HO300.out).2.1)
           (case side7 => repeat (first | exact (Kd.R_reads' HO303.out).2.2 | (with_reducible refine Kd.C_alloc ?_ _) | (with_reducible refine Kd.C_drewN ?_ _) | (with_reducible refine Kd.C_drew ?_)))
           (case side8 => exact (Kd.R_reads' HO303.out).2.1)
           rintro e w149 ⟨v305, v308, rfl, ho0, ho1, hb⟩
           refine ⟨_, rfl, ?_⟩
           have n0_ := ak (Kd.R_elder' (rTo HO_245000.out) (Kd.R_base ho0) hb)
           have n1_ := ak (Kd.R_elder' (rTo HO_245001.out) (Kd.R_base ho1) hb)
           have n2_ := ak (Kd.R_elder' (rTo HO_252000.out) (Kd.R_base ho0) hb)
           have n3_ := ak (Kd.R_elder' (rTo HO_252001.out) (Kd.R_base ho1) hb)
           have n4_ := ak (Kd.R_elder' (rTo HO_259000.out) (Kd.R_base ho0) hb)
           have n5_ := ak (Kd.R_elder' (rTo HO_259001.out) (Kd.R_base ho1) hb)
           have n6_ := ak (Kd.R_elder' (rTo HO_266000.out) (Kd.R_base ho0) hb)
           have n7_ := ak (Kd.R_elder' (rTo HO_266001.out) (Kd.R_base ho1) hb)
           have n8_ := ak (Kd.R_elder' (rTo HO294.out) (Kd.R_base ho0) hb)
           have n9_ := ak (Kd.R_elder' (rTo HO297.out) (Kd.R_base ho1) hb)
           have n10_ := ak (Kd.R_elder' (rTo HO300.out) (Kd.R_base ho0) hb)
           have n11_ := ak (Kd.R_elder' (rTo HO303.out) (Kd.R_base ho1) hb)
           have n12_ := ak (Kd.R_lower (Kd.R_new' (Kd.R_new' (Kd.R_new' (Kd.R_new' (Kd.R_new' (Kd.R_new' ho0 (Kd.R_lt (rTo HO_245000.out))) (Kd.R_lt (rTo HO_252000.out))) (Kd.R_lt (rTo HO_259000.out))) (Kd.R_lt (rTo HO_266000.out))) (Kd.R_lt (rTo HO294.out))) (Kd.R_lt (rTo HO300.out))) (below_size (by repeat (first | (with_reducible first | exact HB.out | apply below_alloc | apply pw_below_drewN | apply below_drew1 | refine below_set ?_ GE222.out | refine below_set ?_ GE223.out | refine below_set ?_ GE244.out | refine below_set ?_ GE251.out | refine below_set ?_ GE258.out | refine below_set ?_ GE265.out | refine below_set ?_ GE310.out) | exact HB.out))))
           have n13_ := ak (Kd.R_lower (Kd.R_new' (Kd.R_new' (Kd.R_new' (Kd.R_new' (Kd.R_new' (Kd.R_new' ho1 (Kd.R_lt (rTo HO_245001.out))) (Kd.R_lt (rTo HO_252001.out))) (Kd.R_lt (rTo HO_259001.out))) (Kd.R_lt (rTo HO_266001.out))) (Kd.R_lt (rTo HO297.out))) (Kd.R_lt (rTo HO303.out))) (below_size (by repeat (first | (with_reducible first | exact HB.out | apply below_alloc | apply pw_below_drewN | apply below_drew1 | refine below_set ?_ GE222.out | refine below_set ?_ GE223.out | refine below_set ?_ GE244.out | refine below_set ?_ GE251.out | refine below_set ?_ GE258.out | refine below_set ?_ GE265.out | refine below_set ?_ GE310.out) | exact HB.out))))
           have n14_ := ak (blk_below (g := gb222) (o := .cells #[.slice A0_0 l0_0.length c0_0, .slice A0_1 l0_1.length c0_1] 41 (0, 0)) (bTo BK222.out) hb)
           have n15_ := ak (blk_below (g := gb223) (o := .cells #[.slice A1_0 l1_0.length c1_0, .slice A1_1 l1_1.length c1_1] 41 (0, 0)) (bTo BK223.out) hb)
           have n16_ := ak (blk_below (g := gb244) (o := .cells #[.slice Ao53 t238.length co53, .slice Ao55 t241.length co55] 26 (0, 0)) (bTo BK244.out) hb)
           have n17_ := ak (blk_below (g := gb251) (o := .cells #[.slice Ao61 t282.length co61, .slice Ao66 t283.length co66] 26 (0, 0)) (bTo BK251.out) hb)
           have n18_ := ak (blk_below (g := gb258) (o := .cells #[.slice Ao71 t285.length co71, .slice Ao77 t286.length co77] 26 (0, 0)) (bTo BK258.out) hb)
           have n19_ := ak (blk_below (g := gb265) (o := .cells #[.slice Ao81 t259.length co81, .slice Ao88 t262.length co88] 26 (0, 0)) (bTo BK265.out) hb)
           have n20_ := ak (blk_below (g := gb310) (o := .cells #[.slice none 0 0, .slice none 0 0] 26 (0, 0)) (bTo BK310.out) hb)
           have n21_ := ak (below_step (by repeat (first | (with_reducible first | exact HB.out | apply below_alloc | apply pw_below_drewN | apply below_drew1 | refine below_set ?_ GE222.out | refine below_set ?_ GE223.out | refine below_set ?_ GE244.out | refine below_set ?_ GE251.out | refine below_set ?_ GE258.out | refine below_set ?_ GE265.out | refine below_set ?_ GE310.out) | exact HB.out)) hb)
           clear HO_245000
           clear HO_245001
           clear HO_252000
           clear HO_252001
           clear HO_259000
           clear HO_259001
           clear HO_266000
           clear HO_266001
           clear HO294
           clear HO297
           clear HO300
           clear HO303
           clear BK222
           clear BK223
           clear BK244
           clear BK251
           clear BK258
           clear BK265
           clear BK310
           clear HB
           have HO_245000 := n0_
           have HO_245001 := n1_
           have HO_252000 := n2_
           have HO_252001 := n3_
           have HO_259000 := n4_
           have HO_259001 := n5_
           have HO_266000 := n6_
           have HO_266001 := n7_
           have HO294 := n8_
           have HO297 := n9_
           have HO300 := n10_
           have HO303 := n11_
           have HO306 := n12_
           have HO309 := n13_
           have BK222 := n14_
           have BK223 := n15_
           have BK244 := n16_
           have BK251 := n17_
           have BK258 := n18_
           have BK265 := n19_
           have BK310 := n20_
           have HB := n21_
           clear n0_ n1_ n2_ n3_ n4_ n5_ n6_ n7_ n8_ n9_ n10_ n11_ n12_ n13_ n14_ n15_ n16_ n17_ n18_ n19_ n20_ n21_
           (try clear hb)
           (try clear hb2)
           (try clear hk)
           (try clear hi)
           (try clear ho0)
           (try clear ho1)
           refine hK.out _ _ ⟨(blk_cell BK222.out 0).trans rfl, (blk_cell BK222.out 1).trans rfl, (blk_cell BK223.out 0).trans rfl, (blk_cell BK223.out 1).trans rfl⟩ (fun hHeld => ?_)
           clear hK K
           refine norm_ (a' := ?_) ?_ ?_
           rotate_left
           ·show Act.put _ (some 79) _ = _
            simp only [Act.put, List.setIfInBounds_toArray, List.set_cons_zero, List.set_cons_succ, i64_w, i32_w]
            rfl
           exact norm_ (by simp only [putAll, Act.put, List.setIfInBounds_toArray, List.set_cons_zero, List.set_cons_succ]) (hCont (.slice Ao145 t292.length co145, .slice Ao146 t295.length co146, .slice Ao147 t298.length co147, .slice Ao148 t301.length co148, v305, v308, gb310) _ ⟨hHeld, (by (with_reducible repeat (first | apply Kd.R_alloc | apply Kd.R_drewN | apply Kd.R_drew)); exact Kd.R_mono HO294.out (fun _ hk => ⟨(gives hk), ⟨hk.2, ⟨(gives hk), ⟨(gives hk), ⟨(gives hk), (gives hk)⟩⟩⟩⟩⟩)), (by (with_reducible repeat (first | apply Kd.R_alloc | apply Kd.R_drewN | apply Kd.R_drew)); exact Kd.R_mono HO297.out (fun _ hk => ⟨(gives hk), ⟨hk.2, ⟨(gives hk), ⟨(gives hk), ⟨(gives hk), (gives hk)⟩⟩⟩⟩⟩)), (by (with_reducible repeat (first | apply Kd.R_alloc | apply Kd.R_drewN | apply Kd.R_drew)); exact Kd.R_mono HO300.out (fun _ hk => ⟨(gives hk), ⟨hk.2, ⟨(gives hk), ⟨(gives hk), ⟨(gives hk), (gives hk)⟩⟩⟩⟩⟩)), (by (with_reducible repeat (first | apply Kd.R_alloc | apply Kd.R_drewN | apply Kd.R_drew)); exact Kd.R_mono HO303.out (fun _ hk => ⟨(gives hk), ⟨hk.2, ⟨(gives hk), ⟨(gives hk), ⟨(gives hk), (gives hk)⟩⟩⟩⟩⟩)), (by (with_reducible repeat (first | apply Kd.R_alloc | apply Kd.R_drewN | apply Kd.R_drew)); exact Kd.R_mono HO306.out (fun _ hk => ⟨(gives hk), ⟨hk.2, ⟨(gives hk), ⟨(gives hk), ⟨(gives hk), (gives hk)⟩⟩⟩⟩⟩)), (by (with_reducible repeat (first | apply Kd.R_alloc | apply Kd.R_drewN | apply Kd.R_drew)); exact Kd.R_mono HO309.out (fun _ hk => ⟨(gives hk), ⟨hk.2, ⟨(gives hk), ⟨(gives hk), ⟨(gives hk), (gives hk)⟩⟩⟩⟩⟩)), (by (with_reducible repeat (first | apply Kd.R_alloc | apply Kd.R_drewN | apply Kd.R_drew)); exact Kd.R_mono HO_245000.out (fun _ hk => ⟨(gives hk), ⟨(gives hk), ⟨hk.2, ⟨(gives hk), ⟨(gives hk), (gives hk)⟩⟩⟩⟩⟩)), (by (with_reducible repeat (first | apply Kd.R_alloc | apply Kd.R_drewN | apply Kd.R_drew)); exact Kd.R_mono HO_245001.out (fun _ hk => ⟨(gives hk), ⟨(gives hk), ⟨hk.2, ⟨(gives hk), ⟨(gives hk), (gives hk)⟩⟩⟩⟩⟩)), (by (with_reducible repeat (first | apply Kd.R_alloc | apply Kd.R_drewN | apply Kd.R_drew)); exact Kd.R_mono HO_252000.out (fun _ hk => ⟨(gives hk), ⟨(gives hk), ⟨hk.2, ⟨(gives hk), ⟨(gives hk), (gives hk)⟩⟩⟩⟩⟩)), (by (with_reducible repeat (first | apply Kd.R_alloc | apply Kd.R_drewN | apply Kd.R_drew)); exact Kd.R_mono HO_252001.out (fun _ hk => ⟨(gives hk), ⟨(gives hk), ⟨hk.2, ⟨(gives hk), ⟨(gives hk), (gives hk)⟩⟩⟩⟩⟩)), (by (with_reducible repeat (first | apply Kd.R_alloc | apply Kd.R_drewN | apply Kd.R_drew)); exact Kd.R_mono HO_259000.out (fun _ hk => ⟨(gives hk), ⟨(gives hk), ⟨hk.2, ⟨(gives hk), ⟨(gives hk), (gives hk)⟩⟩⟩⟩⟩)), (by (with_reducible repeat (first | apply Kd.R_alloc | apply Kd.R_drewN | apply Kd.R_drew)); exact Kd.R_mono HO_259001.out (fun _ hk => ⟨(gives hk), ⟨(gives hk), ⟨hk.2, ⟨(gives hk), ⟨(gives hk), (gives hk)⟩⟩⟩⟩⟩)), (by (with_reducible repeat (first | apply Kd.R_alloc | apply Kd.R_drewN | apply Kd.R_drew)); exact Kd.R_mono HO_266000.out (fun _ hk => ⟨(gives hk), ⟨(gives hk), ⟨hk.2, ⟨(gives hk), ⟨(gives hk), (gives hk)⟩⟩⟩⟩⟩)), (by (with_reducible repeat (first | apply Kd.R_alloc | apply Kd.R_drewN | apply Kd.R_drew)); exact Kd.R_mono HO_266001.out (fun _ hk => ⟨(gives hk), ⟨(gives hk), ⟨hk.2, ⟨(gives hk), ⟨(gives hk), (gives hk)⟩⟩⟩⟩⟩)), (bTo BK222.out), (bTo BK223.out), (bTo BK244.out), (bTo BK251.out), (bTo BK258.out), (bTo BK265.out), (bTo BK310.out), GW310.out, GE310.out, NB222_310.out, NB310_222.out, NB223_310.out, NB310_223.out, NB244_310.out, NB310_244.out, NB251_310.out, NB310_251.out, NB258_310.out, NB310_258.out, NB265_310.out, NB310_265.out, (by repeat (first | (with_reducible first | exact HB.out | apply below_alloc | apply pw_below_drewN | apply below_drew1 | refine below_set ?_ GE222.out | refine below_set ?_ GE223.out | refine below_set ?_ GE244.out | refine below_set ?_ GE251.out | refine below_set ?_ GE258.out | refine below_set ?_ GE265.out | refine below_set ?_ GE310.out) | exact HB.out))⟩)
         ·skip
          refine box_step ?hg (N := 13) ?hd (cs := #[.slice none 0 0, .slice none 0 0]) (t := 26) ?hr ?_; (case hd => rfl); (case hg => rfl); (case hr => first | (go_simp; done) | (go_simp; rfl))
          intro gb310 hg w142 hbox hb
          have n0_ := ak (Kd.R_below (rTo HO_245000.out) hb)
          have n1_ := ak (Kd.R_below (rTo HO_245001.out) hb)
          have n2_ := ak (Kd.R_below (rTo HO_252000.out) hb)
          have n3_ := ak (Kd.R_below (rTo HO_252001.out) hb)
          have n4_ := ak (Kd.R_below (rTo HO_259000.out) hb)
          have n5_ := ak (Kd.R_below (rTo HO_259001.out) hb)
          have n6_ := ak (Kd.R_below (rTo HO_266000.out) hb)
          have n7_ := ak (Kd.R_below (rTo HO_266001.out) hb)
          have n8_ := ak (blk_below (g := gb222) (o := .cells #[.slice A0_0 l0_0.length c0_0, .slice A0_1 l0_1.length c0_1] 41 (0, 0)) (bTo BK222.out) hb)
          have n9_ := ak (blk_below (g := gb223) (o := .cells #[.slice A1_0 l1_0.length c1_0, .slice A1_1 l1_1.length c1_1] 41 (0, 0)) (bTo BK223.out) hb)
          have n10_ := ak (blk_below (g := gb244) (o := .cells #[.slice Ao53 t238.length co53, .slice Ao55 t241.length co55] 26 (0, 0)) (bTo BK244.out) hb)
          have n11_ := ak (blk_below (g := gb251) (o := .cells #[.slice Ao61 t282.length co61, .slice Ao66 t283.length co66] 26 (0, 0)) (bTo BK251.out) hb)
          have n12_ := ak (blk_below (g := gb258) (o := .cells #[.slice Ao71 t285.length co71, .slice Ao77 t286.length co77] 26 (0, 0)) (bTo BK258.out) hb)
          have n13_ := ak (blk_below (g := gb265) (o := .cells #[.slice Ao81 t259.length co81, .slice Ao88 t262.length co88] 26 (0, 0)) (bTo BK265.out) hb)
          have n14_ := ak (below_step (by repeat (first | (with_reducible first | exact HB.out | apply below_alloc | apply pw_below_drewN | apply below_drew1 | refine below_set ?_ GE222.out | refine below_set ?_ GE223.out | refine below_set ?_ GE244.out | refine below_set ?_ GE251.out | refine below_set ?_ GE258.out | refine below_set ?_ GE265.out) | exact HB.out)) hb)
          have n15_ := ak (hbox)
          have n16_ := ak ((by rw [hg]; exact (below_size (by repeat (first | (with_reducible first | exact HB.out | apply below_alloc | apply pw_below_drewN | apply below_drew1 | refine below_set ?_ GE222.out | refine below_set ?_ GE223.out | refine below_set ?_ GE244.out | refine below_set ?_ GE251.out | refine below_set ?_ GE258.out | refine below_set ?_ GE265.out) | exact HB.out))) : w.heap.size ≤ gb310))
          have n17_ := ak ((by rw [hg]; exact (below_size (by repeat (first | (with_reducible first | exact HB.out | apply below_alloc | apply pw_below_drewN | apply below_drew1 | refine below_set ?_ GE222.out | refine below_set ?_ GE223.out | refine below_set ?_ GE244.out | refine below_set ?_ GE251.out | refine below_set ?_ GE258.out | refine below_set ?_ GE265.out) | exact HB.out))) : w.heap.size ≤ gb310))
          have n18_ := ak ((by rw [hg]; exact Nat.ne_of_lt (blk_lt (g := gb222) (o := .cells #[.slice A0_0 l0_0.length c0_0, .slice A0_1 l0_1.length c0_1] 41 (0, 0)) (bTo BK222.out)) : gb222 ≠ gb310))
          have n19_ := ak ((by rw [hg]; exact Nat.ne_of_gt (blk_lt (g := gb222) (o := .cells #[.slice A0_0 l0_0.length c0_0, .slice A0_1 l0_1.length c0_1] 41 (0, 0)) (bTo BK222.out)) : gb310 ≠ gb222))
          have n20_ := ak ((by rw [hg]; exact Nat.ne_of_lt (blk_lt (g := gb223) (o := .cells #[.slice A1_0 l1_0.length c1_0, .slice A1_1 l1_1.length c1_1] 41 (0, 0)) (bTo BK223.out)) : gb223 ≠ gb310))
          have n21_ := ak ((by rw [hg]; exact Nat.ne_of_gt (blk_lt (g := gb223) (o := .cells #[.slice A1_0 l1_0.length c1_0, .slice A1_1 l1_1.length c1_1] 41 (0, 0)) (bTo BK223.out)) : gb310 ≠ gb223))
          have n22_ := ak ((by rw [hg]; exact Nat.ne_of_lt (blk_lt (g := gb244) (o := .cells #[.slice Ao53 t238.length co53, .slice Ao55 t241.length co55] 26 (0, 0)) (bTo BK244.out)) : gb244 ≠ gb310))
          have n23_ := ak ((by rw [hg]; exact Nat.ne_of_gt (blk_lt (g := gb244) (o := .cells #[.slice Ao53 t238.length co53, .slice Ao55 t241.length co55] 26 (0, 0)) (bTo BK244.out)) : gb310 ≠ gb244))
          have n24_ := ak ((by rw [hg]; exact Nat.ne_of_lt (blk_lt (g := gb251) (o := .cells #[.slice Ao61 t282.length co61, .slice Ao66 t283.length co66] 26 (0, 0)) (bTo BK251.out)) : gb251 ≠ gb310))
          have n25_ := ak ((by rw [hg]; exact Nat.ne_of_gt (blk_lt (g := gb251) (o := .cells #[.slice Ao61 t282.length co61, .slice Ao66 t283.length co66] 26 (0, 0)) (bTo BK251.out)) : gb310 ≠ gb251))
          have n26_ := ak ((by rw [hg]; exact Nat.ne_of_lt (blk_lt (g := gb258) (o := .cells #[.slice Ao71 t285.length co71, .slice Ao77 t286.length co77] 26 (0, 0)) (bTo BK258.out)) : gb258 ≠ gb310))
          have n27_ := ak ((by rw [hg]; exact Nat.ne_of_gt (blk_lt (g := gb258) (o := .cells #[.slice Ao71 t285.length co71, .slice Ao77 t286.length co77] 26 (0, 0)) (bTo BK258.out)) : gb310 ≠ gb258))
          have n28_ := ak ((by rw [hg]; exact Nat.ne_of_lt (blk_lt (g := gb265) (o := .cells #[.slice Ao81 t259.length co81, .slice Ao88 t262.length co88] 26 (0, 0)) (bTo BK265.out)) : gb265 ≠ gb310))
          have n29_ := ak ((by rw [hg]; exact Nat.ne_of_gt (blk_lt (g := gb265) (o := .cells #[.slice Ao81 t259.length co81, .slice Ao88 t262.length co88] 26 (0, 0)) (bTo BK265.out)) : gb310 ≠ gb265))
          clear HO_245000
          clear HO_245001
          clear HO_252000
          clear HO_252001
          clear HO_259000
          clear HO_259001
          clear HO_266000
          clear HO_266001
          clear BK222
          clear BK223
          clear BK244
          clear BK251
          clear BK258
          clear BK265
          clear HB
          have HO_245000 := n0_
          have HO_245001 := n1_
          have HO_252000 := n2_
          have HO_252001 := n3_
          have HO_259000 := n4_
          have HO_259001 := n5_
          have HO_266000 := n6_
          have HO_266001 := n7_
          have BK222 := n8_
          have BK223 := n9_
          have BK244 := n10_
          have BK251 := n11_
          have BK258 := n12_
          have BK265 := n13_
          have HB := n14_
          have BK310 := n15_
          have GW310 := n16_
          have GE310 := n17_
          have NB222_310 := n18_
          have NB310_222 := n19_
          have NB223_310 := n20_
          have NB310_223 := n21_
          have NB244_310 := n22_
          have NB310_244 := n23_
          have NB251_310 := n24_
          have NB310_251 := n25_
          have NB258_310 := n26_
          have NB310_258 := n27_
          have NB265_310 := n28_
          have NB310_265 := n29_
          clear n0_ n1_ n2_ n3_ n4_ n5_ n6_ n7_ n8_ n9_ n10_ n11_ n12_ n13_ n14_ n15_ n16_ n17_ n18_ n19_ n20_ n21_ n22_ n23_ n24_ n25_ n26_ n27_ n28_ n29_
          clear hb hbox hg
          refine hK.out _ _ ⟨(blk_cell BK222.out 0).trans rfl, (blk_cell BK222.out 1).trans rfl, (blk_cell BK223.out 0).trans rfl, (blk_cell BK223.out 1).trans rfl⟩ (fun hHeld => ?_)
          clear hK K
          refine norm_ (a' := ?_) ?_ ?_
          rotate_left
          ·show Act.put _ (some 13) _ = _
           simp only [Act.put, List.setIfInBounds_toArray, List.set_cons_zero, List.set_cons_succ, i64_w, i32_w]
           rfl
          refine one_ (i := 1) (N := some 76) #[true, true, true, false, false, true, false] rfl rfl (by kernel_rfl) (by decide) (fun K hK => ?_)
          refine goes_ Try.func25 (by kernel_rfl) rfl #[.agg #[.slice A0_0 l0_0.length c0_0, .slice A0_1 l0_1.length c0_1]] (by rfl) rfl rfl (by (try simp only [List.map_toArray, List.map_cons, List.map_nil]); first | done | rfl | (simp only [List.length_drop, List.length_take]; rfl)) ?_
          with_reducible refine (laws_toReport.calls kj34 _ _ l0_0 _ _ l0_1 t292 t295 _ ?side1 ?side2 ?side3 ?side4 A124.out).mono ?_
          (case side1 => repeat (first | exact (Kd.C_below HR0_0.out HB.out) | (with_reducible refine Kd.C_alloc ?_ _) | (with_reducible refine Kd.C_drewN ?_ _) | (with_reducible refine Kd.C_drew ?_)))
          (case side2 => exact HC0_0.out)
          (case side3 => repeat (first | exact (Kd.C_below HR0_1.out HB.out) | (with_reducible refine Kd.C_alloc ?_ _) | (with_reducible refine Kd.C_drewN ?_ _) | (with_reducible refine Kd.C_drew ?_)))
          (case side4 => exact HC0_1.out)
          rintro e w143 ⟨v293, v296, rfl, ho0, ho1, hb⟩
          refine ⟨_, rfl, ?_⟩
          have n0_ := ak (Kd.R_elder' (rTo HO_245000.out) (Kd.R_base ho0) hb)
          have n1_ := ak (Kd.R_elder' (rTo HO_245001.out) (Kd.R_base ho1) hb)
          have n2_ := ak (Kd.R_elder' (rTo HO_252000.out) (Kd.R_base ho0) hb)
          have n3_ := ak (Kd.R_elder' (rTo HO_252001.out) (Kd.R_base ho1) hb)
          have n4_ := ak (Kd.R_elder' (rTo HO_259000.out) (Kd.R_base ho0) hb)
          have n5_ := ak (Kd.R_elder' (rTo HO_259001.out) (Kd.R_base ho1) hb)
          have n6_ := ak (Kd.R_elder' (rTo HO_266000.out) (Kd.R_base ho0) hb)
          have n7_ := ak (Kd.R_elder' (rTo HO_266001.out) (Kd.R_base ho1) hb)
          have n8_ := ak (Kd.R_lower (Kd.R_new' (Kd.R_new' (Kd.R_new' (Kd.R_new' ho0 (Kd.R_lt (rTo HO_245000.out))) (Kd.R_lt (rTo HO_252000.out))) (Kd.R_lt (rTo HO_259000.out))) (Kd.R_lt (rTo HO_266000.out))) (below_size (by repeat (first | (with_reducible first | exact HB.out | apply below_alloc | apply pw_below_drewN | apply below_drew1 | refine below_set ?_ GE222.out | refine below_set ?_ GE223.out | refine below_set ?_ GE244.out | refine below_set ?_ GE251.out | refine below_set ?_ GE258.out | refine below_set ?_ GE265.out | refine below_set ?_ GE310.out) | exact HB.out))))
          have n9_ := ak (Kd.R_lower (Kd.R_new' (Kd.R_new' (Kd.R_new' (Kd.R_new' ho1 (Kd.R_lt (rTo HO_245001.out))) (Kd.R_lt (rTo HO_252001.out))) (Kd.R_lt (rTo HO_259001.out))) (Kd.R_lt (rTo HO_266001.out))) (below_size (by repeat (first | (with_reducible first | exact HB.out | apply below_alloc | apply pw_below_drewN | apply below_drew1 | refine below_set ?_ GE222.out | refine below_set ?_ GE223.out | refine below_set ?_ GE244.out | refine below_set ?_ GE251.out | refine below_set ?_ GE258.out | refine below_set ?_ GE265.out | refine below_set ?_ GE310.out) | exact HB.out))))
          have n10_ := ak (blk_below (g := gb222) (o := .cells #[.slice A0_0 l0_0.length c0_0, .slice A0_1 l0_1.length c0_1] 41 (0, 0)) (bTo BK222.out) hb)
          have n11_ := ak (blk_below (g := gb223) (o := .cells #[.slice A1_0 l1_0.length c1_0, .slice A1_1 l1_1.length c1_1] 41 (0, 0)) (bTo BK223.out) hb)
          have n12_ := ak (blk_below (g := gb244) (o := .cells #[.slice Ao53 t238.length co53, .slice Ao55 t241.length co55] 26 (0, 0)) (bTo BK244.out) hb)
          have n13_ := ak (blk_below (g := gb251) (o := .cells #[.slice Ao61 t282.length co61, .slice Ao66 t283.length co66] 26 (0, 0)) (bTo BK251.out) hb)
          have n14_ := ak (blk_below (g := gb258) (o := .cells #[.slice Ao71 t285.length co71, .slice Ao77 t286.length co77] 26 (0, 0)) (bTo BK258.out) hb)
          have n15_ := ak (blk_below (g := gb265) (o := .cells #[.slice Ao81 t259.length co81, .slice Ao88 t262.length co88] 26 (0, 0)) (bTo BK265.out) hb)
          have n16_ := ak (blk_below (g := gb310) (o := .cells #[.slice none 0 0, .slice none 0 0] 26 (0, 0)) (bTo BK310.out) hb)
          have n17_ := ak (below_step (by repeat (first | (with_reducible first | exact HB.out | apply below_alloc | apply pw_below_drewN | apply below_drew1 | refine below_set ?_ GE222.out | refine below_set ?_ GE223.out | refine below_set ?_ GE244.out | refine below_set ?_ GE251.out | refine below_set ?_ GE258.out | refine below_set ?_ GE265.out | refine below_set ?_ GE310.out) | exact HB.out)) hb)
          clear HO_245000
          clear HO_245001
          clear HO_252000
          clear HO_252001
          clear HO_259000
          clear HO_259001
          clear HO_266000
          clear HO_266001
          clear BK222
          clear BK223
          clear BK244
          clear BK251
          clear BK258
          clear BK265
          clear BK310
          clear HB
          have HO_245000 := n0_
          have HO_245001 := n1_
          have HO_252000 := n2_
          have HO_252001 := n3_
          have HO_259000 := n4_
          have HO_259001 := n5_
          have HO_266000 := n6_
          have HO_266001 := n7_
          have HO294 := n8_
          have HO297 := n9_
          have BK222 := n10_
          have BK223 := n11_
          have BK244 := n12_
          have BK251 := n13_
          have BK258 := n14_
          have BK265 := n15_
          have BK310 := n16_
          have HB := n17_
          clear n0_ n1_ n2_ n3_ n4_ n5_ n6_ n7_ n8_ n9_ n10_ n11_ n12_ n13_ n14_ n15_ n16_ n17_
          (try clear hb)
          (try clear hb2)
          (try clear hk)
          (try clear hi)
          (try clear ho0)
          (try clear ho1)
          refine hK.out _ _ ⟨(blk_cell BK222.out 0).trans rfl, (blk_cell BK222.out 1).trans rfl, (blk_cell BK223.out 0).trans rfl, (blk_cell BK223.out 1).trans rfl⟩ (fun hHeld => ?_)
          clear hK K
          refine norm_ (a' := ?_) ?_ ?_
          rotate_left
          ·show Act.put _ (some 76) _ = _
           simp only [Act.put, List.setIfInBounds_toArray, List.set_cons_zero, List.set_cons_succ, i64_w, i32_w]
           rfl
          refine one_ (i := 3) (N := some 78) #[true, true, true, true, false, true, false] rfl rfl (by kernel_rfl) (by decide) (fun K hK => ?_)
          refine goes_ Try.func25 (by kernel_rfl) rfl #[.agg #[.slice A1_0 l1_0.length c1_0, .slice A1_1 l1_1.length c1_1]] (by rfl) rfl rfl (by (try simp only [List.map_toArray, List.map_cons, List.map_nil]); first | done | rfl | (simp only [List.length_drop, List.length_take]; rfl)) ?_
          with_reducible refine (laws_toReport.calls kj34 _ _ l1_0 _ _ l1_1 t298 t301 _ ?side1 ?side2 ?side3 ?side4 A125.out).mono ?_
          (case side1 => repeat (first | exact (Kd.C_below HR1_0.out HB.out) | (with_reducible refine Kd.C_alloc ?_ _) | (with_reducible refine Kd.C_drewN ?_ _) | (with_reducible refine Kd.C_drew ?_)))
          (case side2 => exact HC1_0.out)
          (case side3 => repeat (first | exact (Kd.C_below HR1_1.out HB.out) | (with_reducible refine Kd.C_alloc ?_ _) | (with_reducible refine Kd.C_drewN ?_ _) | (with_reducible refine Kd.C_drew ?_)))
          (case side4 => exact HC1_1.out)
          rintro e w144 ⟨v299, v302, rfl, ho0, ho1, hb⟩
          refine ⟨_, rfl, ?_⟩
          have n0_ := ak (Kd.R_elder' (rTo HO_245000.out) (Kd.R_base ho0) hb)
          have n1_ := ak (Kd.R_elder' (rTo HO_245001.out) (Kd.R_base ho1) hb)
          have n2_ := ak (Kd.R_elder' (rTo HO_252000.out) (Kd.R_base ho0) hb)
          have n3_ := ak (Kd.R_elder' (rTo HO_252001.out) (Kd.R_base ho1) hb)
          have n4_ := ak (Kd.R_elder' (rTo HO_259000.out) (Kd.R_base ho0) hb)
          have n5_ := ak (Kd.R_elder' (rTo HO_259001.out) (Kd.R_base ho1) hb)
          have n6_ := ak (Kd.R_elder' (rTo HO_266000.out) (Kd.R_base ho0) hb)
          have n7_ := ak (Kd.R_elder' (rTo HO_266001.out) (Kd.R_base ho1) hb)
          have n8_ := ak (Kd.R_elder' (rTo HO294.out) (Kd.R_base ho0) hb)
          have n9_ := ak (Kd.R_elder' (rTo HO297.out) (Kd.R_base ho1) hb)
          have n10_ := ak (Kd.R_lower (Kd.R_new' (Kd.R_new' (Kd.R_new' (Kd.R_new' (Kd.R_new' ho0 (Kd.R_lt (rTo HO_245000.out))) (Kd.R_lt (rTo HO_252000.out))) (Kd.R_lt (rTo HO_259000.out))) (Kd.R_lt (rTo HO_266000.out))) (Kd.R_lt (rTo HO294.out))) (below_size (by repeat (first | (with_reducible first | exact HB.out | apply below_alloc | apply pw_below_drewN | apply below_drew1 | refine below_set ?_ GE222.out | refine below_set ?_ GE223.out | refine below_set ?_ GE244.out | refine below_set ?_ GE251.out | refine below_set ?_ GE258.out | refine below_set ?_ GE265.out | refine below_set ?_ GE310.out) | exact HB.out))))
          have n11_ := ak (Kd.R_lower (Kd.R_new' (Kd.R_new' (Kd.R_new' (Kd.R_new' (Kd.R_new' ho1 (Kd.R_lt (rTo HO_245001.out))) (Kd.R_lt (rTo HO_252001.out))) (Kd.R_lt (rTo HO_259001.out))) (Kd.R_lt (rTo HO_266001.out))) (Kd.R_lt (rTo HO297.out))) (below_size (by repeat (first | (with_reducible first | exact HB.out | apply below_alloc | apply pw_below_drewN | apply below_drew1 | refine below_set ?_ GE222.out | refine below_set ?_ GE223.out | refine below_set ?_ GE244.out | refine below_set ?_ GE251.out | refine below_set ?_ GE258.out | refine below_set ?_ GE265.out | refine below_set ?_ GE310.out) | exact HB.out))))
          have n12_ := ak (blk_below (g := gb222) (o := .cells #[.slice A0_0 l0_0.length c0_0, .slice A0_1 l0_1.length c0_1] 41 (0, 0)) (bTo BK222.out) hb)
          have n13_ := ak (blk_below (g := gb223) (o := .cells #[.slice A1_0 l1_0.length c1_0, .slice A1_1 l1_1.length c1_1] 41 (0, 0)) (bTo BK223.out) hb)
          have n14_ := ak (blk_below (g := gb244) (o := .cells #[.slice Ao53 t238.length co53, .slice Ao55 t241.length co55] 26 (0, 0)) (bTo BK244.out) hb)
          have n15_ := ak (blk_below (g := gb251) (o := .cells #[.slice Ao61 t282.length co61, .slice Ao66 t283.length co66] 26 (0, 0)) (bTo BK251.out) hb)
          have n16_ := ak (blk_below (g := gb258) (o := .cells #[.slice Ao71 t285.length co71, .slice Ao77 t286.length co77] 26 (0, 0)) (bTo BK258.out) hb)
          have n17_ := ak (blk_below (g := gb265) (o := .cells #[.slice Ao81 t259.length co81, .slice Ao88 t262.length co88] 26 (0, 0)) (bTo BK265.out) hb)
          have n18_ := ak (blk_below (g := gb310) (o := .cells #[.slice none 0 0, .slice none 0 0] 26 (0, 0)) (bTo BK310.out) hb)
          have n19_ := ak (below_step (by repeat (first | (with_reducible first | exact HB.out | apply below_alloc | apply pw_below_drewN | apply below_drew1 | refine below_set ?_ GE222.out | refine below_set ?_ GE223.out | refine below_set ?_ GE244.out | refine below_set ?_ GE251.out | refine below_set ?_ GE258.out | refine below_set ?_ GE265.out | refine below_set ?_ GE310.out) | exact HB.out)) hb)
          clear HO_245000
          clear HO_245001
          clear HO_252000
          clear HO_252001
          clear HO_259000
          clear HO_259001
          clear HO_266000
          clear HO_266001
          clear HO294
          clear HO297
          clear BK222
          clear BK223
          clear BK244
          clear BK251
          clear BK258
          clear BK265
          clear BK310
          clear HB
          have HO_245000 := n0_
          have HO_245001 := n1_
          have HO_252000 := n2_
          have HO_252001 := n3_
          have HO_259000 := n4_
          have HO_259001 := n5_
          have HO_266000 := n6_
          have HO_266001 := n7_
          have HO294 := n8_
          have HO297 := n9_
          have HO300 := n10_
          have HO303 := n11_
          have BK222 := n12_
          have BK223 := n13_
          have BK244 := n14_
          have BK251 := n15_
          have BK258 := n16_
          have BK265 := n17_
          have BK310 := n18_
          have HB := n19_
          clear n0_ n1_ n2_ n3_ n4_ n5_ n6_ n7_ n8_ n9_ n10_ n11_ n12_ n13_ n14_ n15_ n16_ n17_ n18_ n19_
          (try clear hb)
          (try clear hb2)
          (try clear hk)
          (try clear hi)
          (try clear ho0)
          (try clear ho1)
          obtain ⟨Ao145, co145, eo145⟩ := Kd.R_slice HO294.out
          (first | subst eo145 | (injection eo145 with f1_ f2_ f3_; have f4_ := f1_.symm; have f5_ := f3_.symm; clear f1_ f2_ f3_; subst f4_; subst f5_))
          obtain ⟨Ao146, co146, eo146⟩ := Kd.R_slice HO297.out
          (first | subst eo146 | (injection eo146 with f1_ f2_ f3_; have f4_ := f1_.symm; have f5_ := f3_.symm; clear f1_ f2_ f3_; subst f4_; subst f5_))
          obtain ⟨Ao147, co147, eo147⟩ := Kd.R_slice HO300.out
          (first | subst eo147 | (injection eo147 with f1_ f2_ f3_; have f4_ := f1_.symm; have f5_ := f3_.symm; clear f1_ f2_ f3_; subst f4_; subst f5_))
          obtain ⟨Ao148, co148, eo148⟩ := Kd.R_slice HO303.out
          (first | subst eo148 | (injection eo148 with f1_ f2_ f3_; have f4_ := f1_.symm; have f5_ := f3_.symm; clear f1_ f2_ f3_; subst f4_; subst f5_))
          refine hK.out _ _ ⟨(blk_cell BK222.out 0).trans rfl, (blk_cell BK222.out 1).trans rfl, (blk_cell BK223.out 0).trans rfl, (blk_cell BK223.out 1).trans rfl⟩ (fun hHeld => ?_)
          clear hK K
          refine norm_ (a' := ?_) ?_ ?_
          rotate_left
          ·show Act.put _ (some 78) _ = _
           simp only [Act.put, List.setIfInBounds_toArray, List.set_cons_zero, List.set_cons_succ, i64_w, i32_w]
           rfl
          refine one_ (i := 4) (N := some 79) #[true, true, true, true, true, true, false] rfl rfl (by kernel_rfl) (by decide) (fun K hK => ?_)
          refine goes_ Try.func19 (by kernel_rfl) rfl #[.agg #[.slice Ao145 t292.length co145, .slice Ao146 t295.length co146], .agg #[.slice Ao147 t298.length co147, .slice Ao148 t301.length co148]] (by rfl) rfl rfl (by (try simp only [List.map_toArray, List.map_cons, List.map_nil]); first | done | rfl | (simp only [List.length_drop, List.length_take]; rfl)) ?_
          with_reducible refine (impl_MergeReports.calls kj34 _ _ t292 _ _ t295 _ _ t298 _ _ t301 t304 t307 _ ?side1 ?side2 ?side3 ?side4 ?side5 ?side6 ?side7 ?side8 A126.out).mono ?_
          (case side1 => repeat (first | exact (Kd.R_reads' HO294.out).2.2 | (with_reducible refine Kd.C_alloc ?_ _) | (with_reducible refine Kd.C_drewN ?_ _) | (with_reducible refine Kd.C_drew ?_)))
          (case side2 => exact (Kd.R_reads' HO294.out).2.1)
          (case side3 => repeat (first | exact (Kd.R_reads' HO297.out).2.2 | (with_reducible refine Kd.C_alloc ?_ _) | (with_reducible refine Kd.C_drewN ?_ _) | (with_reducible refine Kd.C_drew ?_)))
          (case side4 => exact (Kd.R_reads' HO297.out).2.1)
          (case side5 => repeat (first | exact (Kd.R_reads' HO300.out).2.2 | (with_reducible refine Kd.C_alloc ?_ _) | (with_reducible refine Kd.C_drewN ?_ _) | (with_reducible refine Kd.C_drew ?_)))
          (case side6 => exact (Kd.R_reads' HO300.out).2.1)
          (case side7 => repeat (first | exact (Kd.R_reads' HO303.out).2.2 | (with_reducible refine Kd.C_alloc ?_ _) | (with_reducible refine Kd.C_drewN ?_ _) | (with_reducible refine Kd.C_drew ?_)))
          (case side8 => exact (Kd.R_reads' HO303.out).2.1)
          rintro e w149 ⟨v305, v308, rfl, ho0, ho1, hb⟩
          refine ⟨_, rfl, ?_⟩
          have n0_ := ak (Kd.R_elder' (rTo HO_245000.out) (Kd.R_base ho0) hb)
          have n1_ := ak (Kd.R_elder' (rTo HO_245001.out) (Kd.R_base ho1) hb)
          have n2_ := ak (Kd.R_elder' (rTo HO_252000.out) (Kd.R_base ho0) hb)
          have n3_ := ak (Kd.R_elder' (rTo HO_252001.out) (Kd.R_base ho1) hb)
          have n4_ := ak (Kd.R_elder' (rTo HO_259000.out) (Kd.R_base ho0) hb)
          have n5_ := ak (Kd.R_elder' (rTo HO_259001.out) (Kd.R_base ho1) hb)
          have n6_ := ak (Kd.R_elder' (rTo HO_266000.out) (Kd.R_base ho0) hb)
          have n7_ := ak (Kd.R_elder' (rTo HO_266001.out) (Kd.R_base ho1) hb)
          have n8_ := ak (Kd.R_elder' (rTo HO294.out) (Kd.R_base ho0) hb)
          have n9_ := ak (Kd.R_elder' (rTo HO297.out) (Kd.R_base ho1) hb)
          have n10_ := ak (Kd.R_elder' (rTo HO300.out) (Kd.R_base ho0) hb)
          have n11_ := ak (Kd.R_elder' (rTo HO303.out) (Kd.R_base ho1) hb)
          have n12_ := ak (Kd.R_lower (Kd.R_new' (Kd.R_new' (Kd.R_new' (Kd.R_new' (Kd.R_new' (Kd.R_new' ho0 (Kd.R_lt (rTo HO_245000.out))) (Kd.R_lt (rTo HO_252000.out))) (Kd.R_lt (rTo HO_259000.out))) (Kd.R_lt (rTo HO_266000.out))) (Kd.R_lt (rTo HO294.out))) (Kd.R_lt (rTo HO300.out))) (below_size (by repeat (first | (with_reducible first | exact HB.out | apply below_alloc | apply pw_below_drewN | apply below_drew1 | refine below_set ?_ GE222.out | refine below_set ?_ GE223.out | refine below_set ?_ GE244.out | refine below_set ?_ GE251.out | refine below_set ?_ GE258.out | refine below_set ?_ GE265.out | refine below_set ?_ GE310.out) | exact HB.out))))
          have n13_ := ak (Kd.R_lower (Kd.R_new' (Kd.R_new' (Kd.R_new' (Kd.R_new' (Kd.R_new' (Kd.R_new' ho1 (Kd.R_lt (rTo HO_245001.out))) (Kd.R_lt (rTo HO_252001.out))) (Kd.R_lt (rTo HO_259001.out))) (Kd.R_lt (rTo HO_266001.out))) (Kd.R_lt (rTo HO297.out))) (Kd.R_lt (rTo HO303.out))) (below_size (by repeat (first | (with_reducible first | exact HB.out | apply below_alloc | apply pw_below_drewN | apply below_drew1 | refine below_set ?_ GE222.out | refine below_set ?_ GE223.out | refine below_set ?_ GE244.out | refine below_set ?_ GE251.out | refine below_set ?_ GE258.out | refine below_set ?_ GE265.out | refine below_set ?_ GE310.out) | exact HB.out))))
          have n14_ := ak (blk_below (g := gb222) (o := .cells #[.slice A0_0 l0_0.length c0_0, .slice A0_1 l0_1.length c0_1] 41 (0, 0)) (bTo BK222.out) hb)
          have n15_ := ak (blk_below (g := gb223) (o := .cells #[.slice A1_0 l1_0.length c1_0, .slice A1_1 l1_1.length c1_1] 41 (0, 0)) (bTo BK223.out) hb)
          have n16_ := ak (blk_below (g := gb244) (o := .cells #[.slice Ao53 t238.length co53, .slice Ao55 t241.length co55] 26 (0, 0)) (bTo BK244.out) hb)
          have n17_ := ak (blk_below (g := gb251) (o := .cells #[.slice Ao61 t282.length co61, .slice Ao66 t283.length co66] 26 (0, 0)) (bTo BK251.out) hb)
          have n18_ := ak (blk_below (g := gb258) (o := .cells #[.slice Ao71 t285.length co71, .slice Ao77 t286.length co77] 26 (0, 0)) (bTo BK258.out) hb)
          have n19_ := ak (blk_below (g := gb265) (o := .cells #[.slice Ao81 t259.length co81, .slice Ao88 t262.length co88] 26 (0, 0)) (bTo BK265.out) hb)
          have n20_ := ak (blk_below (g := gb310) (o := .cells #[.slice none 0 0, .slice none 0 0] 26 (0, 0)) (bTo BK310.out) hb)
          have n21_ := ak (below_step (by repeat (first | (with_reducible first | exact HB.out | apply below_alloc | apply pw_below_drewN | apply below_drew1 | refine below_set ?_ GE222.out | refine below_set ?_ GE223.out | refine below_set ?_ GE244.out | refine below_set ?_ GE251.out | refine below_set ?_ GE258.out | refine below_set ?_ GE265.out | refine below_set ?_ GE310.out) | exact HB.out)) hb)
          clear HO_245000
          clear HO_245001
          clear HO_252000
          clear HO_252001
          clear HO_259000
          clear HO_259001
          clear HO_266000
          clear HO_266001
          clear HO294
          clear HO297
          clear HO300
          clear HO303
          clear BK222
          clear BK223
          clear BK244
          clear BK251
          clear BK258
          clear BK265
          clear BK310
          clear HB
          have HO_245000 := n0_
          have HO_245001 := n1_
          have HO_252000 := n2_
          have HO_252001 := n3_
          have HO_259000 := n4_
          have HO_259001 := n5_
          have HO_266000 := n6_
          have HO_266001 := n7_
          have HO294 := n8_
          have HO297 := n9_
          have HO300 := n10_
          have HO303 := n11_
          have HO306 := n12_
          have HO309 := n13_
          have BK222 := n14_
          have BK223 := n15_
          have BK244 := n16_
          have BK251 := n17_
          have BK258 := n18_
          have BK265 := n19_
          have BK310 := n20_
          have HB := n21_
          clear n0_ n1_ n2_ n3_ n4_ n5_ n6_ n7_ n8_ n9_ n10_ n11_ n12_ n13_ n14_ n15_ n16_ n17_ n18_ n19_ n20_ n21_
          (try clear hb)
          (try clear hb2)
          (try clear hk)
          (try clear hi)
          (try clear ho0)
          (try clear ho1)
          refine hK.out _ _ ⟨(blk_cell BK222.out 0).trans rfl, (blk_cell BK222.out 1).trans rfl, (blk_cell BK223.out 0).trans rfl, (blk_cell BK223.out 1).trans rfl⟩ (fun hHeld => ?_)
          clear hK K
          refine norm_ (a' := ?_) ?_ ?_
          rotate_left
          ·show Act.put _ (some 79) _ = _
           simp only [Act.put, List.setIfInBounds_toArray, List.set_cons_zero, List.set_cons_succ, i64_w, i32_w]
           rfl
          exact norm_ (by simp only [putAll, Act.put, List.setIfInBounds_toArray, List.set_cons_zero, List.set_cons_succ]) (hCont (.slice Ao145 t292.length co145, .slice Ao146 t295.length co146, .slice Ao147 t298.length co147, .slice Ao148 t301.length co148, v305, v308, gb310) _ ⟨hHeld, (by (with_reducible repeat (first | apply Kd.R_alloc | apply Kd.R_drewN | apply Kd.R_drew)); exact Kd.R_mono HO294.out (fun _ hk => ⟨(gives hk), ⟨hk.2, ⟨(gives hk), ⟨(gives hk), ⟨(gives hk), (gives hk)⟩⟩⟩⟩⟩)), (by (with_reducible repeat (first | apply Kd.R_alloc | apply Kd.R_drewN | apply Kd.R_drew)); exact Kd.R_mono HO297.out (fun _ hk => ⟨(gives hk), ⟨hk.2, ⟨(gives hk), ⟨(gives hk), ⟨(gives hk), (gives hk)⟩⟩⟩⟩⟩)), (by (with_reducible repeat (first | apply Kd.R_alloc | apply Kd.R_drewN | apply Kd.R_drew)); exact Kd.R_mono HO300.out (fun _ hk => ⟨(gives hk), ⟨hk.2, ⟨(gives hk), ⟨(gives hk), ⟨(gives hk), (gives hk)⟩⟩⟩⟩⟩)), (by (with_reducible repeat (first | apply Kd.R_alloc | apply Kd.R_drewN | apply Kd.R_drew)); exact Kd.R_mono HO303.out (fun _ hk => ⟨(gives hk), ⟨hk.2, ⟨(gives hk), ⟨(gives hk), ⟨(gives hk), (gives hk)⟩⟩⟩⟩⟩)), (by (with_reducible repeat (first | apply Kd.R_alloc | apply Kd.R_drewN | apply Kd.R_drew)); exact Kd.R_mono HO306.out (fun _ hk => ⟨(gives hk), ⟨hk.2, ⟨(gives hk), ⟨(gives hk), ⟨(gives hk), (gives hk)⟩⟩⟩⟩⟩)), (by (with_reducible repeat (first | apply Kd.R_alloc | apply Kd.R_drewN | apply Kd.R_drew)); exact Kd.R_mono HO309.out (fun _ hk => ⟨(gives hk), ⟨hk.2, ⟨(gives hk), ⟨(gives hk), ⟨(gives hk), (gives hk)⟩⟩⟩⟩⟩)), (by (with_reducible repeat (first | apply Kd.R_alloc | apply Kd.R_drewN | apply Kd.R_drew)); exact Kd.R_mono HO_245000.out (fun _ hk => ⟨(gives hk), ⟨(gives hk), ⟨hk.2, ⟨(gives hk), ⟨(gives hk), (gives hk)⟩⟩⟩⟩⟩)), (by (with_reducible repeat (first | apply Kd.R_alloc | apply Kd.R_drewN | apply Kd.R_drew)); exact Kd.R_mono HO_245001.out (fun _ hk => ⟨(gives hk), ⟨(gives hk), ⟨hk.2, ⟨(gives hk), ⟨(gives hk), (gives hk)⟩⟩⟩⟩⟩)), (by (with_reducible repeat (first | apply Kd.R_alloc | apply Kd.R_drewN | apply Kd.R_drew)); exact Kd.R_mono HO_252000.out (fun _ hk => ⟨(gives hk), ⟨(gives hk), ⟨hk.2, ⟨(gives hk), ⟨(gives hk), (gives hk)⟩⟩⟩⟩⟩)), (by (with_reducible repeat (first | apply Kd.R_alloc | apply Kd.R_drewN | apply Kd.R_drew)); exact Kd.R_mono HO_252001.out (fun _ hk => ⟨(gives hk), ⟨(gives hk), ⟨hk.2, ⟨(gives hk), ⟨(gives hk), (gives hk)⟩⟩⟩⟩⟩)), (by (with_reducible repeat (first | apply Kd.R_alloc | apply Kd.R_drewN | apply Kd.R_drew)); exact Kd.R_mono HO_259000.out (fun _ hk => ⟨(gives hk), ⟨(gives hk), ⟨hk.2, ⟨(gives hk), ⟨(gives hk), (gives hk)⟩⟩⟩⟩⟩)), (by (with_reducible repeat (first | apply Kd.R_alloc | apply Kd.R_drewN | apply Kd.R_drew)); exact Kd.R_mono HO_259001.out (fun _ hk => ⟨(gives hk), ⟨(gives hk), ⟨hk.2, ⟨(gives hk), ⟨(gives hk), (gives hk)⟩⟩⟩⟩⟩)), (by (with_reducible repeat (first | apply Kd.R_alloc | apply Kd.R_drewN | apply Kd.R_drew)); exact Kd.R_mono HO_266000.out (fun _ hk => ⟨(gives hk), ⟨(gives hk), ⟨hk.2, ⟨(gives hk), ⟨(gives hk), (gives hk)⟩⟩⟩⟩⟩)), (by (with_reducible repeat (first | apply Kd.R_alloc | apply Kd.R_drewN | apply Kd.R_drew)); exact Kd.R_mono HO_266001.out (fun _ hk => ⟨(gives hk), ⟨(gives hk), ⟨hk.2, ⟨(gives hk), ⟨(gives hk), (gives hk)⟩⟩⟩⟩⟩)), (bTo BK222.out), (bTo BK223.out), (bTo BK244.out), (bTo BK251.out), (bTo BK258.out), (bTo BK265.out), (bTo BK310.out), GW310.out, GE310.out, NB222_310.out, NB310_222.out, NB223_310.out, NB310_223.out, NB244_310.out, NB310_244.out, NB251_310.out, NB310_251.out, NB258_310.out, NB310_258.out, NB265_310.out, NB310_265.out, (by repeat (first | (with_reducible first | exact HB.out | apply below_alloc | apply pw_below_drewN | apply below_drew1 | refine below_set ?_ GE222.out | refine below_set ?_ GE223.out | refine below_set ?_ GE244.out | refine below_set ?_ GE251.out | refine below_set ?_ GE258.out | refine below_set ?_ GE265.out | refine below_set ?_ GE310.out) | exact HB.out))⟩)
        rintro ⟨v293, v296, v299, v302, v305, v308, gb310⟩ w150 ⟨hS_, h0_, h1_, h2_, h3_, h4_, h5_, h6_, h7_, h8_, h9_, h10_, h11_, h12_, h13_, h14_, h15_, h16_, h17_, h18_, h19_, h20_, h21_, h22_, h23_, h24_, h25_, h26_, h27_, h28_, h29_, h30_, h31_, h32_, h33_, h34_, h35_⟩
        have n0_ : Aside0 (Kd.R k37 37 w150 w.heap.size (fun k_ => some k_ ≠ (v299 : Value).ownBlock ∧ some k_ ≠ (v305 : Value).ownBlock ∧ some k_ ≠ (.slice Ao53 t238.length co53 : Value).ownBlock ∧ some k_ ≠ (.slice Ao61 t282.length co61 : Value).ownBlock ∧ some k_ ≠ (.slice Ao71 t285.length co71 : Value).ownBlock ∧ some k_ ≠ (.slice Ao81 t259.length co81 : Value).ownBlock) v293 t292) := ⟨h0_⟩
        have n1_ : Aside0 (Kd.R Kd.string 9 w150 w.heap.size (fun k_ => some k_ ≠ (v302 : Value).ownBlock ∧ some k_ ≠ (v308 : Value).ownBlock ∧ some k_ ≠ (.slice Ao55 t241.length co55 : Value).ownBlock ∧ some k_ ≠ (.slice Ao66 t283.length co66 : Value).ownBlock ∧ some k_ ≠ (.slice Ao77 t286.length co77 : Value).ownBlock ∧ some k_ ≠ (.slice Ao88 t262.length co88 : Value).ownBlock) v296 t295) := ⟨h1_⟩
        have n2_ : Aside0 (Kd.R k37 37 w150 w.heap.size (fun k_ => some k_ ≠ (v293 : Value).ownBlock ∧ some k_ ≠ (v305 : Value).ownBlock ∧ some k_ ≠ (.slice Ao53 t238.length co53 : Value).ownBlock ∧ some k_ ≠ (.slice Ao61 t282.length co61 : Value).ownBlock ∧ some k_ ≠ (.slice Ao71 t285.length co71 : Value).ownBlock ∧ some k_ ≠ (.slice Ao81 t259.length co81 : Value).ownBlock) v299 t298) := ⟨h2_⟩
        have n3_ : Aside0 (Kd.R Kd.string 9 w150 w.heap.size (fun k_ => some k_ ≠ (v296 : Value).ownBlock ∧ some k_ ≠ (v308 : Value).ownBlock ∧ some k_ ≠ (.slice Ao55 t241.length co55 : Value).ownBlock ∧ some k_ ≠ (.slice Ao66 t283.length co66 : Value).ownBlock ∧ some k_ ≠ (.slice Ao77 t286.length co77 : Value).ownBlock ∧ some k_ ≠ (.slice Ao88 t262.length co88 : Value).ownBlock) v302 t301) := ⟨h3_⟩
        have n4_ : Aside0 (Kd.R k37 37 w150 w.heap.size (fun k_ => some k_ ≠ (v293 : Value).ownBlock ∧ some k_ ≠ (v299 : Value).ownBlock ∧ some k_ ≠ (.slice Ao53 t238.length co53 : Value).ownBlock ∧ some k_ ≠ (.slice Ao61 t282.length co61 : Value).ownBlock ∧ some k_ ≠ (.slice Ao71 t285.length co71 : Value).ownBlock ∧ some k_ ≠ (.slice Ao81 t259.length co81 : Value).ownBlock) v305 t304) := ⟨h4_⟩
        have n5_ : Aside0 (Kd.R Kd.string 9 w150 w.heap.size (fun k_ => some k_ ≠ (v296 : Value).ownBlock ∧ some k_ ≠ (v302 : Value).ownBlock ∧ some k_ ≠ (.slice Ao55 t241.length co55 : Value).ownBlock ∧ some k_ ≠ (.slice Ao66 t283.length co66 : Value).ownBlock ∧ some k_ ≠ (.slice Ao77 t286.length co77 : Value).ownBlock ∧ some k_ ≠ (.slice Ao88 t262.length co88 : Value).ownBlock) v308 t307) := ⟨h5_⟩
        have n6_ : Aside0 (Kd.R k37 37 w150 w.heap.size (fun k_ => some k_ ≠ (v293 : Value).ownBlock ∧ some k_ ≠ (v299 : Value).ownBlock ∧ some k_ ≠ (v305 : Value).ownBlock ∧ some k_ ≠ (.slice Ao61 t282.length co61 : Value).ownBlock ∧ some k_ ≠ (.slice Ao71 t285.length co71 : Value).ownBlock ∧ some k_ ≠ (.slice Ao81 t259.length co81 : Value).ownBlock) (.slice Ao53 t238.length co53) t238) := ⟨h6_⟩
        have n7_ : Aside0 (Kd.R Kd.string 9 w150 w.heap.size (fun k_ => some k_ ≠ (v296 : Value).ownBlock ∧ some k_ ≠ (v302 : Value).ownBlock ∧ some k_ ≠ (v308 : Value).ownBlock ∧ some k_ ≠ (.slice Ao66 t283.length co66 : Value).ownBlock ∧ some k_ ≠ (.slice Ao77 t286.length co77 : Value).ownBlock ∧ some k_ ≠ (.slice Ao88 t262.length co88 : Value).ownBlock) (.slice Ao55 t241.length co55) t241) := ⟨h7_⟩
        have n8_ : Aside0 (Kd.R k37 37 w150 w.heap.size (fun k_ => some k_ ≠ (v293 : Value).ownBlock ∧ some k_ ≠ (v299 : Value).ownBlock ∧ some k_ ≠ (v305 : Value).ownBlock ∧ some k_ ≠ (.slice Ao53 t238.length co53 : Value).ownBlock ∧ some k_ ≠ (.slice Ao71 t285.length co71 : Value).ownBlock ∧ some k_ ≠ (.slice Ao81 t259.length co81 : Value).ownBlock) (.slice Ao61 t282.length co61) t282) := ⟨h8_⟩
        have n9_ : Aside0 (Kd.R Kd.string 9 w150 w.heap.size (fun k_ => some k_ ≠ (v296 : Value).ownBlock ∧ some k_ ≠ (v302 : Value).ownBlock ∧ some k_ ≠ (v308 : Value).ownBlock ∧ some k_ ≠ (.slice Ao55 t241.length co55 : Value).ownBlock ∧ some k_ ≠ (.slice Ao77 t286.length co77 : Value).ownBlock ∧ some k_ ≠ (.slice Ao88 t262.length co88 : Value).ownBlock) (.slice Ao66 t283.length co66) t283) := ⟨h9_⟩
        have n10_ : Aside0 (Kd.R k37 37 w150 w.heap.size (fun k_ => some k_ ≠ (v293 : Value).ownBlock ∧ some k_ ≠ (v299 : Value).ownBlock ∧ some k_ ≠ (v305 : Value).ownBlock ∧ some k_ ≠ (.slice Ao53 t238.length co53 : Value).ownBlock ∧ some k_ ≠ (.slice Ao61 t282.length co61 : Value).ownBlock ∧ some k_ ≠ (.slice Ao81 t259.length co81 : Value).ownBlock) (.slice Ao71 t285.length co71) t285) := ⟨h10_⟩
        have n11_ : Aside0 (Kd.R Kd.string 9 w150 w.heap.size (fun k_ => some k_ ≠ (v296 : Value).ownBlock ∧ some k_ ≠ (v302 : Value).ownBlock ∧ some k_ ≠ (v308 : Value).ownBlock ∧ some k_ ≠ (.slice Ao55 t241.length co55 : Value).ownBlock ∧ some k_ ≠ (.slice Ao66 t283.length co66 : Value).ownBlock ∧ some k_ ≠ (.slice Ao88 t262.length co88 : Value).ownBlock) (.slice Ao77 t286.length co77) t286) := ⟨h11_⟩
        have n12_ : Aside0 (Kd.R k37 37 w150 w.heap.size (fun k_ => some k_ ≠ (v293 : Value).ownBlock ∧ some k_ ≠ (v299 : Value).ownBlock ∧ some k_ ≠ (v305 : Value).ownBlock ∧ some k_ ≠ (.slice Ao53 t238.length co53 : Value).ownBlock ∧ some k_ ≠ (.slice Ao61 t282.length co61 : Value).ownBlock ∧ some k_ ≠ (.slice Ao71 t285.length co71 : Value).ownBlock) (.slice Ao81 t259.length co81) t289) := ⟨h12_⟩
        have n13_ : Aside0 (Kd.R Kd.string 9 w150 w.heap.size (fun k_ => some k_ ≠ (v296 : Value).ownBlock ∧ some k_ ≠ (v302 : Value).ownBlock ∧ some k_ ≠ (v308 : Value).ownBlock ∧ some k_ ≠ (.slice Ao55 t241.length co55 : Value).ownBlock ∧ some k_ ≠ (.slice Ao66 t283.length co66 : Value).ownBlock ∧ some k_ ≠ (.slice Ao77 t286.length co77 : Value).ownBlock) (.slice Ao88 t262.length co88) t290) := ⟨h13_⟩
        have n14_ : Aside0 (w150.heap[gb222]? = some (.cells #[.slice A0_0 l0_0.length c0_0, .slice A0_1 l0_1.length c0_1] 41 (0, 0))) := ⟨h14_⟩
        have n15_ : Aside0 (w150.heap[gb223]? = some (.cells #[.slice A1_0 l1_0.length c1_0, .slice A1_1 l1_1.length c1_1] 41 (0, 0))) := ⟨h15_⟩
        have n16_ : Aside0 (w150.heap[gb244]? = some (.cells #[.slice Ao53 t238.length co53, .slice Ao55 t241.length co55] 26 (0, 0))) := ⟨h16_⟩
        have n17_ : Aside0 (w150.heap[gb251]? = some (.cells #[.slice Ao61 t282.length co61, .slice Ao66 t283.length co66] 26 (0, 0))) := ⟨h17_⟩
        have n18_ : Aside0 (w150.heap[gb258]? = some (.cells #[.slice Ao71 t285.length co71, .slice Ao77 t286.length co77] 26 (0, 0))) := ⟨h18_⟩
        have n19_ : Aside0 (w150.heap[gb265]? = some (.cells #[.slice Ao81 t259.length co81, .slice Ao88 t262.length co88] 26 (0, 0))) := ⟨h19_⟩
        have n20_ : Aside0 (w150.heap[gb310]? = some (.cells #[.slice none 0 0, .slice none 0 0] 26 (0, 0))) := ⟨h20_⟩
        have n21_ : Aside0 (w.heap.size ≤ gb310) := ⟨h21_⟩
        have n22_ : Aside0 (w.heap.size ≤ gb310) := ⟨h22_⟩
        have n23_ : Aside0 (gb222 ≠ gb310) := ⟨h23_⟩
        have n24_ : Aside0 (gb310 ≠ gb222) := ⟨h24_⟩
        have n25_ : Aside0 (gb223 ≠ gb310) := ⟨h25_⟩
        have n26_ : Aside0 (gb310 ≠ gb223) := ⟨h26_⟩
        have n27_ : Aside0 (gb244 ≠ gb310) := ⟨h27_⟩
        have n28_ : Aside0 (gb310 ≠ gb244) := ⟨h28_⟩
        have n29_ : Aside0 (gb251 ≠ gb310) := ⟨h29_⟩
        have n30_ : Aside0 (gb310 ≠ gb251) := ⟨h30_⟩
        have n31_ : Aside0 (gb258 ≠ gb310) := ⟨h31_⟩
        have n32_ : Aside0 (gb310 ≠ gb258) := ⟨h32_⟩
        have n33_ : Aside0 (gb265 ≠ gb310) := ⟨h33_⟩
        have n34_ : Aside0 (gb310 ≠ gb265) := ⟨h34_⟩
        have n35_ : Aside0 (Below w.heap.size w w150) := ⟨h35_⟩
        clear HO_245000
        clear HO_245001
        clear HO_252000
        clear HO_252001
        clear HO_259000
        clear HO_259001
        clear HO_266000
        clear HO_266001
        clear BK222
        clear BK223
        clear BK244
        clear BK251
        clear BK258
        clear BK265
        clear HB
        clear h0_ h1_ h2_ h3_ h4_ h5_ h6_ h7_ h8_ h9_ h10_ h11_ h12_ h13_ h14_ h15_ h16_ h17_ h18_ h19_ h20_ h21_ h22_ h23_ h24_ h25_ h26_ h27_ h28_ h29_ h30_ h31_ h32_ h33_ h34_ h35_
        have HO294 := n0_
        have HO297 := n1_
        have HO300 := n2_
        have HO303 := n3_
        have HO306 := n4_
        have HO309 := n5_
        have HO_245000 := n6_
        have HO_245001 := n7_
        have HO_252000 := n8_
        have HO_252001 := n9_
        have HO_259000 := n10_
        have HO_259001 := n11_
        have HO_266000 := n12_
        have HO_266001 := n13_
        have BK222 := n14_
        have BK223 := n15_
        have BK244 := n16_
        have BK251 := n17_
        have BK258 := n18_
        have BK265 := n19_
        have BK310 := n20_
        have GW310 := n21_
        have GE310 := n22_
        have NB222_310 := n23_
        have NB310_222 := n24_
        have NB223_310 := n25_
        have NB310_223 := n26_
        have NB244_310 := n27_
        have NB310_244 := n28_
        have NB251_310 := n29_
        have NB310_251 := n30_
        have NB258_310 := n31_
        have NB310_258 := n32_
        have NB265_310 := n33_
        have NB310_265 := n34_
        have HB := n35_
        clear n0_ n1_ n2_ n3_ n4_ n5_ n6_ n7_ n8_ n9_ n10_ n11_ n12_ n13_ n14_ n15_ n16_ n17_ n18_ n19_ n20_ n21_ n22_ n23_ n24_ n25_ n26_ n27_ n28_ n29_ n30_ n31_ n32_ n33_ n34_ n35_
        have hHeld : w150.cell? ⟨gb222, 0, none⟩ = some (.slice A0_0 l0_0.length c0_0) ∧ w150.cell? ⟨gb222, 1, none⟩ = some (.slice A0_1 l0_1.length c0_1) ∧ w150.cell? ⟨gb223, 0, none⟩ = some (.slice A1_0 l1_0.length c1_0) ∧ w150.cell? ⟨gb223, 1, none⟩ = some (.slice A1_1 l1_1.length c1_1) := hS_
        obtain ⟨Ao151, co151, eo151⟩ := Kd.R_slice HO306.out
        (first | subst eo151 | (injection eo151 with f1_ f2_ f3_; have f4_ := f1_.symm; have f5_ := f3_.symm; clear f1_ f2_ f3_; subst f4_; subst f5_))
        obtain ⟨Ao153, co153, eo153⟩ := Kd.R_slice HO309.out
        (first | subst eo153 | (injection eo153 with f1_ f2_ f3_; have f4_ := f1_.symm; have f5_ := f3_.symm; clear f1_ f2_ f3_; subst f4_; subst f5_))
        refine norm_ (a' := ?_) ?_ ?_
        rotate_left
        ·simp only [putAll, Act.put, List.setIfInBounds_toArray, List.set_cons_zero, List.set_cons_succ]
         rfl
        refine one_ (i := 6) (N := none) #[true, true, true, true, true, true, true] rfl rfl (by kernel_rfl) (by decide) (fun K hK => ?_)
        have hs152 : w150.cell? ⟨gb310, 0, none⟩ = some (.slice none 0 0) := (blk_cell BK310.out 0).trans rfl
        have hfs152 := blk_frozen BK310.out 0
        have hns152_0 := NB222_310.out
        have hns152_1 := NB223_310.out
        have hns152_2 := NB244_310.out
        have hns152_3 := NB251_310.out
        have hns152_4 := NB258_310.out
        have hns152_5 := NB265_310.out
        have hms152_0 := NB310_222.out
        have hms152_1 := NB310_223.out
        have hms152_2 := NB310_244.out
        have hms152_3 := NB310_251.out
        have hms152_4 := NB310_258.out
        have hms152_5 := NB310_265.out
        have hs154 : w150.cell? ⟨gb310, 1, none⟩ = some (.slice none 0 0) := (blk_cell BK310.out 1).trans rfl
        have hfs154 := blk_frozen BK310.out 1
        have hns154_0 := NB222_310.out
        have hns154_1 := NB223_310.out
        have hns154_2 := NB244_310.out
        have hns154_3 := NB251_310.out
        have hns154_4 := NB258_310.out
        have hns154_5 := NB265_310.out
        have hms154_0 := NB310_222.out
        have hms154_1 := NB310_223.out
        have hms154_2 := NB310_244.out
        have hms154_3 := NB310_251.out
        have hms154_4 := NB310_258.out
        have hms154_5 := NB310_265.out
        refine skip_ (w1 := ?_) (by rfl) rfl ?_ ?_
        rotate_left
        ·go_simp
         rfl
        refine hK.out _ _ ⟨((cell_far (p := ⟨gb310, _, none⟩) NB222_310.out _).trans (((cell_far (p := ⟨gb310, _, none⟩) NB222_310.out _).trans (hHeld.1)))), ((cell_far (p := ⟨gb310, _, none⟩) NB222_310.out _).trans (((cell_far (p := ⟨gb310, _, none⟩) NB222_310.out _).trans (hHeld.2.1)))), ((cell_far (p := ⟨gb310, _, none⟩) NB223_310.out _).trans (((cell_far (p := ⟨gb310, _, none⟩) NB223_310.out _).trans (hHeld.2.2.1)))), ((cell_far (p := ⟨gb310, _, none⟩) NB223_310.out _).trans (((cell_far (p := ⟨gb310, _, none⟩) NB223_310.out _).trans (hHeld.2.2.2))))⟩ (fun hHeld => ?_)
        clear hK K
        refine done_ (by kernel_rfl) ?_
        have hnb155 := NB310_222.out
        have hnc155 := NB222_310.out
        have hnb156 := NB310_223.out
        have hnc156 := NB223_310.out
        have hnb157 := NB310_244.out
        have hnc157 := NB244_310.out
        have hnb158 := NB310_251.out
        have hnc158 := NB251_310.out
        have hnb159 := NB310_258.out
        have hnc159 := NB258_310.out
        have hnb160 := NB310_265.out
        have hnc160 := NB265_310.out
        have hcz161_0 : w150.cell? ⟨gb310, 0, none⟩ = some (.slice none 0 0) := (blk_cell BK310.out 0).trans rfl
        have hcz161_1 : w150.cell? ⟨gb310, 1, none⟩ = some (.slice none 0 0) := (blk_cell BK310.out 1).trans rfl
        have hfz161_0 := blk_frozen BK310.out 0
        have hfz161_1 := blk_frozen BK310.out 1
        have hnb162 := NB244_222.out
        have hnc162 := NB222_244.out
        have hnb163 := NB244_223.out
        have hnc163 := NB223_244.out
        have hnb164 := NB244_251.out
        have hnc164 := NB251_244.out
        have hnb165 := NB244_258.out
        have hnc165 := NB258_244.out
        have hcz166_0 : w150.cell? ⟨gb244, 0, none⟩ = some (.slice Ao53 t238.length co53) := (blk_cell BK244.out 0).trans rfl
        have hcz166_1 : w150.cell? ⟨gb244, 1, none⟩ = some (.slice Ao55 t241.length co55) := (blk_cell BK244.out 1).trans rfl
        have hfz166_0 := blk_frozen BK244.out 0
        have hfz166_1 := blk_frozen BK244.out 1
        try go_wp2_with (first | ((with_reducible refine gate_callee (f := 26) rfl ?_); refine goesL_ (some 82) rfl rfl Try.func26 (by kernel_rfl) rfl #[.agg #[.slice Ao151 t304.length co151, .slice Ao153 t307.length co153], .agg #[.slice Ao53 t238.length co53, .slice Ao55 t241.length co55]] rfl (by (try simp only [List.map_toArray, List.map_cons, List.map_nil]); first | done | rfl | (simp only [List.length_drop, List.length_take]; rfl)) ?_; (with_reducible refine (laws_eqReport.calls kj34 _ _ t304 _ _ t307 _ _ t238 _ _ t241 true _ ?side1 ?side2 ?side3 ?side4 ?side5 ?side6 ?side7 ?side8 A127.out).mono ?_); (case side1 => refine (Kd.R_reads' (e := 37) (base := w.heap.size) (ok := fun k_ => (some k_ ≠ (v293 : Value).ownBlock ∧ (some k_ ≠ (v299 : Value).ownBlock ∧ (some k_ ≠ (.slice Ao53 t238.length co53 : Value).ownBlock ∧ (some k_ ≠ (.slice Ao61 t282.length co61 : Value).ownBlock ∧ (some k_ ≠ (.slice Ao71 t285.length co71 : Value).ownBlock ∧ some k_ ≠ (.slice Ao81 t259.length co81 : Value).ownBlock)))))) (n := t304.length) (c := co151) ?_).2.2; exact (by (with_reducible repeat (first | apply Kd.R_alloc | apply Kd.R_drewN | apply Kd.R_drew)); exact (Kd.R_mono (Kd.R_far (p := ⟨gb310, 1, none⟩) (Kd.R_far (p := ⟨gb310, 0, none⟩) (Kd.R_types HO306.out BK310.out (by decide)) (fun _ hk => hk.2) (.slice Ao151 t304.length co151)) (fun _ hk => hk.2) (.slice Ao153 t307.length co153)) (fun _ h_ => h_.1)))); (case side2 => exact (Kd.R_reads' HO306.out).2.1); (case side3 => refine (Kd.R_reads' (e := 9) (base := w.heap.size) (ok := fun k_ => (some k_ ≠ (v296 : Value).ownBlock ∧ (some k_ ≠ (v302 : Value).ownBlock ∧ (some k_ ≠ (.slice Ao55 t241.length co55 : Value).ownBlock ∧ (some k_ ≠ (.slice Ao66 t283.length co66 : Value).ownBlock ∧ (some k_ ≠ (.slice Ao77 t286.length co77 : Value).ownBlock ∧ some k_ ≠ (.slice Ao88 t262.length co88 : Value).ownBlock)))))) (n := t307.length) (c := co153) ?_).2.2; exact (by (with_reducible repeat (first | apply Kd.R_alloc | apply Kd.R_drewN | apply Kd.R_drew)); exact (Kd.R_mono (Kd.R_far (p := ⟨gb310, 1, none⟩) (Kd.R_far (p := ⟨gb310, 0, none⟩) (Kd.R_types HO309.out BK310.out (by decide)) (fun _ hk => hk.2) (.slice Ao151 t304.length co151)) (fun _ hk => hk.2) (.slice Ao153 t307.length co153)) (fun _ h_ => h_.1)))); (case side4 => exact (Kd.R_reads' HO309.out).2.1); (case side5 => refine (Kd.R_reads' (e := 37) (base := w.heap.size) (ok := fun k_ => (some k_ ≠ (v293 : Value).ownBlock ∧ (some k_ ≠ (v299 : Value).ownBlock ∧ (some k_ ≠ (.slice Ao151 t304.length co151 : Value).ownBlock ∧ (some k_ ≠ (.slice Ao61 t282.length co61 : Value).ownBlock ∧ (some k_ ≠ (.slice Ao71 t285.length co71 : Value).ownBlock ∧ some k_ ≠ (.slice Ao81 t259.length co81 : Value).ownBlock)))))) (n := t238.length) (c := co53) ?_).2.2; exact (by (with_reducible repeat (first | apply Kd.R_alloc | apply Kd.R_drewN | apply Kd.R_drew)); exact (Kd.R_mono (Kd.R_far (p := ⟨gb310, 1, none⟩) (Kd.R_far (p := ⟨gb310, 0, none⟩) (Kd.R_types HO_245000.out BK310.out (by decide)) (fun _ hk => hk.2) (.slice Ao151 t304.length co151)) (fun _ hk => hk.2) (.slice Ao153 t307.length co153)) (fun _ h_ => h_.1)))); (case side6 => exact (Kd.R_reads' HO_245000.out).2.1); (case side7 => refine (Kd.R_reads' (e := 9) (base := w.heap.size) (ok := fun k_ => (some k_ ≠ (v296 : Value).ownBlock ∧ (some k_ ≠ (v302 : Value).ownBlock ∧ (some k_ ≠ (.slice Ao153 t307.length co153 : Value).ownBlock ∧ (some k_ ≠ (.slice Ao66 t283.length co66 : Value).ownBlock ∧ (some k_ ≠ (.slice Ao77 t286.length co77 : Value).ownBlock ∧ some k_ ≠ (.slice Ao88 t262.length co88 : Value).ownBlock)))))) (n := t241.length) (c := co55) ?_).2.2; exact (by (with_reducible repeat (first | apply Kd.R_alloc | apply Kd.R_drewN | apply Kd.R_drew)); exact (Kd.R_mono (Kd.R_far (p := ⟨gb310, 1, none⟩) (Kd.R_far (p := ⟨gb310, 0, none⟩) (Kd.R_types HO_245001.out BK310.out (by decide)) (fun _ hk => hk.2) (.slice Ao151 t304.length co151)) (fun _ hk => hk.2) (.slice Ao153 t307.length co153)) (fun _ h_ => h_.1)))); (case side8 => exact (Kd.R_reads' HO_245001.out).2.1); rintro e w167 ⟨rfl, hb⟩; refine ⟨_, rfl, ?_⟩; have n0_ := ak (Kd.R_below (by (with_reducible repeat (first | apply Kd.R_alloc | apply Kd.R_drewN | apply Kd.R_drew)); exact (Kd.R_mono (Kd.R_far (p := ⟨gb310, 1, none⟩) (Kd.R_far (p := ⟨gb310, 0, none⟩) (Kd.R_types HO_245000.out BK310.out (by decide)) (fun _ hk => hk.2) (.slice Ao151 t304.length co151)) (fun _ hk => hk.2) (.slice Ao153 t307.length co153)) (fun _ h_ => h_.1))) hb); have n1_ := ak (Kd.R_below (by (with_reducible repeat (first | apply Kd.R_alloc | apply Kd.R_drewN | apply Kd.R_drew)); exact (Kd.R_mono (Kd.R_far (p := ⟨gb310, 1, none⟩) (Kd.R_far (p := ⟨gb310, 0, none⟩) (Kd.R_types HO_245001.out BK310.out (by decide)) (fun _ hk => hk.2) (.slice Ao151 t304.length co151)) (fun _ hk => hk.2) (.slice Ao153 t307.length co153)) (fun _ h_ => h_.1))) hb); have n2_ := ak (Kd.R_below (by (with_reducible repeat (first | apply Kd.R_alloc | apply Kd.R_drewN | apply Kd.R_drew)); exact (Kd.R_mono (Kd.R_far (p := ⟨gb310, 1, none⟩) (Kd.R_far (p := ⟨gb310, 0, none⟩) (Kd.R_types HO_252000.out BK310.out (by decide)) (fun _ hk => hk.2) (.slice Ao151 t304.length co151)) (fun _ hk => hk.2) (.slice Ao153 t307.length co153)) (fun _ h_ => h_.1))) hb); have n3_ := ak (Kd.R_below (by (with_reducible repeat (first | apply Kd.R_alloc | apply Kd.R_drewN | apply Kd.R_drew)); exact (Kd.R_mono (Kd.R_far (p := ⟨gb310, 1, none⟩) (Kd.R_far (p := ⟨gb310, 0, none⟩) (Kd.R_types HO_252001.out BK310.out (by decide)) (fun _ hk => hk.2) (.slice Ao151 t304.length co151)) (fun _ hk => hk.2) (.slice Ao153 t307.length co153)) (fun _ h_ => h_.1))) hb); have n4_ := ak (Kd.R_below (by (with_reducible repeat (first | apply Kd.R_alloc | apply Kd.R_drewN | apply Kd.R_drew)); exact (Kd.R_mono (Kd.R_far (p := ⟨gb310, 1, none⟩) (Kd.R_far (p := ⟨gb310, 0, none⟩) (Kd.R_types HO_259000.out BK310.out (by decide)) (fun _ hk => hk.2) (.slice Ao151 t304.length co151)) (fun _ hk => hk.2) (.slice Ao153 t307.length co153)) (fun _ h_ => h_.1))) hb); have n5_ := ak (Kd.R_below (by (with_reducible repeat (first | apply Kd.R_alloc | apply Kd.R_drewN | apply Kd.R_drew)); exact (Kd.R_mono (Kd.R_far (p := ⟨gb310, 1, none⟩) (Kd.R_far (p := ⟨gb310, 0, none⟩) (Kd.R_types HO_259001.out BK310.out (by decide)) (fun _ hk => hk.2) (.slice Ao151 t304.length co151)) (fun _ hk => hk.2) (.slice Ao153 t307.length co153)) (fun _ h_ => h_.1))) hb); have n6_ := ak (Kd.R_below (by (with_reducible repeat (first | apply Kd.R_alloc | apply Kd.R_drewN | apply Kd.R_drew)); exact (Kd.R_mono (Kd.R_far (p := ⟨gb310, 1, none⟩) (Kd.R_far (p := ⟨gb310, 0, none⟩) (Kd.R_types HO_266000.out BK310.out (by decide)) (fun _ hk => hk.2) (.slice Ao151 t304.length co151)) (fun _ hk => hk.2) (.slice Ao153 t307.length co153)) (fun _ h_ => h_.1))) hb); have n7_ := ak (Kd.R_below (by (with_reducible repeat (first | apply Kd.R_alloc | apply Kd.R_drewN | apply Kd.R_drew)); exact (Kd.R_mono (Kd.R_far (p := ⟨gb310, 1, none⟩) (Kd.R_far (p := ⟨gb310, 0, none⟩) (Kd.R_types HO_266001.out BK310.out (by decide)) (fun _ hk => hk.2) (.slice Ao151 t304.length co151)) (fun _ hk => hk.2) (.slice Ao153 t307.length co153)) (fun _ h_ => h_.1))) hb); have n8_ := ak (Kd.R_below (by (with_reducible repeat (first | apply Kd.R_alloc | apply Kd.R_drewN | apply Kd.R_drew)); exact (Kd.R_mono (Kd.R_far (p := ⟨gb310, 1, none⟩) (Kd.R_far (p := ⟨gb310, 0, none⟩) (Kd.R_types HO294.out BK310.out (by decide)) (fun _ hk => hk.2) (.slice Ao151 t304.length co151)) (fun _ hk => hk.2) (.slice Ao153 t307.length co153)) (fun _ h_ => h_.1))) hb); have n9_ := ak (Kd.R_below (by (with_reducible repeat (first | apply Kd.R_alloc | apply Kd.R_drewN | apply Kd.R_drew)); exact (Kd.R_mono (Kd.R_far (p := ⟨gb310, 1, none⟩) (Kd.R_far (p := ⟨gb310, 0, none⟩) (Kd.R_types HO297.out BK310.out (by decide)) (fun _ hk => hk.2) (.slice Ao151 t304.length co151)) (fun _ hk => hk.2) (.slice Ao153 t307.length co153)) (fun _ h_ => h_.1))) hb); have n10_ := ak (Kd.R_below (by (with_reducible repeat (first | apply Kd.R_alloc | apply Kd.R_drewN | apply Kd.R_drew)); exact (Kd.R_mono (Kd.R_far (p := ⟨gb310, 1, none⟩) (Kd.R_far (p := ⟨gb310, 0, none⟩) (Kd.R_types HO300.out BK310.out (by decide)) (fun _ hk => hk.2) (.slice Ao151 t304.length co151)) (fun _ hk => hk.2) (.slice Ao153 t307.length co153)) (fun _ h_ => h_.1))) hb); have n11_ := ak (Kd.R_below (by (with_reducible repeat (first | apply Kd.R_alloc | apply Kd.R_drewN | apply Kd.R_drew)); exact (Kd.R_mono (Kd.R_far (p := ⟨gb310, 1, none⟩) (Kd.R_far (p := ⟨gb310, 0, none⟩) (Kd.R_types HO303.out BK310.out (by decide)) (fun _ hk => hk.2) (.slice Ao151 t304.length co151)) (fun _ hk => hk.2) (.slice Ao153 t307.length co153)) (fun _ h_ => h_.1))) hb); have n12_ := ak (Kd.R_below (by (with_reducible repeat (first | apply Kd.R_alloc | apply Kd.R_drewN | apply Kd.R_drew)); exact (Kd.R_mono (Kd.R_far (p := ⟨gb310, 1, none⟩) (Kd.R_far (p := ⟨gb310, 0, none⟩) (Kd.R_types HO306.out BK310.out (by decide)) (fun _ hk => hk.2) (.slice Ao151 t304.length co151)) (fun _ hk => hk.2) (.slice Ao153 t307.length co153)) (fun _ h_ => h_.1))) hb); have n13_ := ak (Kd.R_below (by (with_reducible repeat (first | apply Kd.R_alloc | apply Kd.R_drewN | apply Kd.R_drew)); exact (Kd.R_mono (Kd.R_far (p := ⟨gb310, 1, none⟩) (Kd.R_far (p := ⟨gb310, 0, none⟩) (Kd.R_types HO309.out BK310.out (by decide)) (fun _ hk => hk.2) (.slice Ao151 t304.length co151)) (fun _ hk => hk.2) (.slice Ao153 t307.length co153)) (fun _ h_ => h_.1))) hb); have n14_ := ak (blk_below (g := gb222) (o := .cells #[.slice A0_0 l0_0.length c0_0, .slice A0_1 l0_1.length c0_1] 41 (0, 0)) (by (with_reducible repeat (first | apply blk_drewN | apply blk_drew | apply blk_alloc)); refine blk_far ?_ NB222_310.out _; (with_reducible repeat (first | apply blk_drewN | apply blk_drew | apply blk_alloc)); refine blk_far ?_ NB222_310.out _; (with_reducible repeat (first | apply blk_drewN | apply blk_drew | apply blk_alloc)); exact BK222.out) hb); have n15_ := ak (blk_below (g := gb223) (o := .cells #[.slice A1_0 l1_0.length c1_0, .slice A1_1 l1_1.length c1_1] 41 (0, 0)) (by (with_reducible repeat (first | apply blk_drewN | apply blk_drew | apply blk_alloc)); refine blk_far ?_ NB223_310.out _; (with_reducible repeat (first | apply blk_drewN | apply blk_drew | apply blk_alloc)); refine blk_far ?_ NB223_310.out _; (with_reducible repeat (first | apply blk_drewN | apply blk_drew | apply blk_alloc)); exact BK223.out) hb); have n16_ := ak (blk_below (g := gb244) (o := .cells #[.slice Ao53 t238.length co53, .slice Ao55 t241.length co55] 26 (0, 0)) (by (with_reducible repeat (first | apply blk_drewN | apply blk_drew | apply blk_alloc)); refine blk_far ?_ NB244_310.out _; (with_reducible repeat (first | apply blk_drewN | apply blk_drew | apply blk_alloc)); refine blk_far ?_ NB244_310.out _; (with_reducible repeat (first | apply blk_drewN | apply blk_drew | apply blk_alloc)); exact BK244.out) hb); have n17_ := ak (blk_below (g := gb251) (o := .cells #[.slice Ao61 t282.length co61, .slice Ao66 t283.length co66] 26 (0, 0)) (by (with_reducible repeat (first | apply blk_drewN | apply blk_drew | apply blk_alloc)); refine blk_far ?_ NB251_310.out _; (with_reducible repeat (first | apply blk_drewN | apply blk_drew | apply blk_alloc)); refine blk_far ?_ NB251_310.out _; (with_reducible repeat (first | apply blk_drewN | apply blk_drew | apply blk_alloc)); exact BK251.out) hb); have n18_ := ak (blk_below (g := gb258) (o := .cells #[.slice Ao71 t285.length co71, .slice Ao77 t286.length co77] 26 (0, 0)) (by (with_reducible repeat (first | apply blk_drewN | apply blk_drew | apply blk_alloc)); refine blk_far ?_ NB258_310.out _; (with_reducible repeat (first | apply blk_drewN | apply blk_drew | apply blk_alloc)); refine blk_far ?_ NB258_310.out _; (with_reducible repeat (first | apply blk_drewN | apply blk_drew | apply blk_alloc)); exact BK258.out) hb); have n19_ := ak (blk_below (g := gb265) (o := .cells #[.slice Ao81 t259.length co81, .slice Ao88 t262.length co88] 26 (0, 0)) (by (with_reducible repeat (first | apply blk_drewN | apply blk_drew | apply blk_alloc)); refine blk_far ?_ NB265_310.out _; (with_reducible repeat (first | apply blk_drewN | apply blk_drew | apply blk_alloc)); refine blk_far ?_ NB265_310.out _; (with_reducible repeat (first | apply blk_drewN | apply blk_drew | apply blk_alloc)); exact BK265.out) hb); have n20_ := ak (blk_below (g := gb310) (o := .cells #[.slice Ao151 t304.length co151, .slice Ao153 t307.length co153] 26 (0, 0)) (by (with_reducible repeat (first | apply blk_drewN | apply blk_drew | apply blk_alloc)); refine blk_put (cs := #[.slice Ao151 t304.length co151, .slice none 0 0]) ?_ 1 _ rfl; (with_reducible repeat (first | apply blk_drewN | apply blk_drew | apply blk_alloc)); refine blk_put (cs := #[.slice none 0 0, .slice none 0 0]) ?_ 0 _ rfl; (with_reducible repeat (first | apply blk_drewN | apply blk_drew | apply blk_alloc)); exact BK310.out) hb); have n21_ := ak (below_step (by repeat (first | (with_reducible first | exact HB.out | apply below_alloc | apply pw_below_drewN | apply below_drew1 | refine below_set ?_ GE222.out | refine below_set ?_ GE223.out | refine below_set ?_ GE244.out | refine below_set ?_ GE251.out | refine below_set ?_ GE258.out | refine below_set ?_ GE265.out | refine below_set ?_ GE310.out) | exact HB.out)) hb); clear HO_245000; clear HO_245001; clear HO_252000; clear HO_252001; clear HO_259000; clear HO_259001; clear HO_266000; clear HO_266001; clear HO294; clear HO297; clear HO300; clear HO303; clear HO306; clear HO309; clear BK222; clear BK223; clear BK244; clear BK251; clear BK258; clear BK265; clear BK310; clear HB; have HO_245000 := n0_; have HO_245001 := n1_; have HO_252000 := n2_; have HO_252001 := n3_; have HO_259000 := n4_; have HO_259001 := n5_; have HO_266000 := n6_; have HO_266001 := n7_; have HO294 := n8_; have HO297 := n9_; have HO300 := n10_; have HO303 := n11_; have HO306 := n12_; have HO309 := n13_; have BK222 := n14_; have BK223 := n15_; have BK244 := n16_; have BK251 := n17_; have BK258 := n18_; have BK265 := n19_; have BK310 := n20_; have HB := n21_; clear n0_ n1_ n2_ n3_ n4_ n5_ n6_ n7_ n8_ n9_ n10_ n11_ n12_ n13_ n14_ n15_ n16_ n17_ n18_ n19_ n20_ n21_; (try clear hb); (try clear hb2); (try clear hk); (try clear hi); have hcz168_0 : w167.cell? ⟨gb265, 0, none⟩ = some (.slice Ao81 t259.length co81) := (blk_cell BK265.out 0).trans rfl; have hcz168_1 : w167.cell? ⟨gb265, 1, none⟩ = some (.slice Ao88 t262.length co88) := (blk_cell BK265.out 1).trans rfl; have hfz168_0 := blk_frozen BK265.out 0; have hfz168_1 := blk_frozen BK265.out 1) | ((with_reducible refine gate_callee (f := 34) rfl ?_); refine goesL_ (some 86) rfl rfl Try.func34 (by kernel_rfl) rfl #[.agg #[.slice Ao81 t289.length co81, .slice Ao88 t290.length co88], .int .i64 1] rfl (by (try simp only [List.map_toArray, List.map_cons, List.map_nil]); first | done | (rw [show t289.length = t259.length from (Kd.R_reads' HO_266000.out).1.symm, show t290.length = t262.length from (Kd.R_reads' HO_266001.out).1.symm] <;> rfl) | rfl | (simp only [List.length_drop, List.length_take]; rfl)) ?_; (with_reducible refine (laws_heldReport.calls kj34 _ _ t289 _ _ t290 1 t312 _ ?side1 ?side2 ?side3 ?side4 A129.out).mono ?_); (case side1 => repeat (first | exact (Kd.R_reads' HO_266000.out).2.2 | (with_reducible refine Kd.C_alloc ?_ _) | (with_reducible refine Kd.C_drewN ?_ _) | (with_reducible refine Kd.C_drew ?_))); (case side2 => rw [show t289.length = t259.length from (Kd.R_reads' HO_266000.out).1.symm]; exact (Kd.R_reads' HO_266000.out).2.1); (case side3 => repeat (first | exact (Kd.R_reads' HO_266001.out).2.2 | (with_reducible refine Kd.C_alloc ?_ _) | (with_reducible refine Kd.C_drewN ?_ _) | (with_reducible refine Kd.C_drew ?_))); (case side4 => rw [show t290.length = t262.length from (Kd.R_reads' HO_266001.out).1.symm]; exact (Kd.R_reads' HO_266001.out).2.1); rintro e w169 ⟨rfl, hb⟩; refine ⟨_, rfl, ?_⟩; have n0_ := ak (Kd.R_below (rTo HO_245000.out) hb); have n1_ := ak (Kd.R_below (rTo HO_245001.out) hb); have n2_ := ak (Kd.R_below (rTo HO_252000.out) hb); have n3_ := ak (Kd.R_below (rTo HO_252001.out) hb); have n4_ := ak (Kd.R_below (rTo HO_259000.out) hb); have n5_ := ak (Kd.R_below (rTo HO_259001.out) hb); have n6_ := ak (Kd.R_below (rTo HO_266000.out) hb); have n7_ := ak (Kd.R_below (rTo HO_266001.out) hb); have n8_ := ak (Kd.R_below (rTo HO294.out) hb); have n9_ := ak (Kd.R_below (rTo HO297.out) hb); have n10_ := ak (Kd.R_below (rTo HO300.out) hb); have n11_ := ak (Kd.R_below (rTo HO303.out) hb); have n12_ := ak (Kd.R_below (rTo HO306.out) hb); have n13_ := ak (Kd.R_below (rTo HO309.out) hb); have n14_ := ak (blk_below (g := gb222) (o := .cells #[.slice A0_0 l0_0.length c0_0, .slice A0_1 l0_1.length c0_1] 41 (0, 0)) (bTo BK222.out) hb); have n15_ := ak (blk_below (g := gb223) (o := .cells #[.slice A1_0 l1_0.length c1_0, .slice A1_1 l1_1.length c1_1] 41 (0, 0)) (bTo BK223.out) hb); have n16_ := ak (blk_below (g := gb244) (o := .cells #[.slice Ao53 t238.length co53, .slice Ao55 t241.length co55] 26 (0, 0)) (bTo BK244.out) hb); have n17_ := ak (blk_below (g := gb251) (o := .cells #[.slice Ao61 t282.length co61, .slice Ao66 t283.length co66] 26 (0, 0)) (bTo BK251.out) hb); have n18_ := ak (blk_below (g := gb258) (o := .cells #[.slice Ao71 t285.length co71, .slice Ao77 t286.length co77] 26 (0, 0)) (bTo BK258.out) hb); have n19_ := ak (blk_below (g := gb265) (o := .cells #[.slice Ao81 t259.length co81, .slice Ao88 t262.length co88] 26 (0, 0)) (bTo BK265.out) hb); have n20_ := ak (blk_below (g := gb310) (o := .cells #[.slice Ao151 t304.length co151, .slice Ao153 t307.length co153] 26 (0, 0)) (bTo BK310.out) hb); have n21_ := ak (below_step (by repeat (first | (with_reducible first | exact HB.out | apply below_alloc | apply pw_below_drewN | apply below_drew1 | refine below_set ?_ GE222.out | refine below_set ?_ GE223.out | refine below_set ?_ GE244.out | refine below_set ?_ GE251.out | refine below_set ?_ GE258.out | refine below_set ?_ GE265.out | refine below_set ?_ GE310.out) | exact HB.out)) hb); clear HO_245000; clear HO_245001; clear HO_252000; clear HO_252001; clear HO_259000; clear HO_259001; clear HO_266000; clear HO_266001; clear HO294; clear HO297; clear HO300; clear HO303; clear HO306; clear HO309; clear BK222; clear BK223; clear BK244; clear BK251; clear BK258; clear BK265; clear BK310; clear HB; have HO_245000 := n0_; have HO_245001 := n1_; have HO_252000 := n2_; have HO_252001 := n3_; have HO_259000 := n4_; have HO_259001 := n5_; have HO_266000 := n6_; have HO_266001 := n7_; have HO294 := n8_; have HO297 := n9_; have HO300 := n10_; have HO303 := n11_; have HO306 := n12_; have HO309 := n13_; have BK222 := n14_; have BK223 := n15_; have BK244 := n16_; have BK251 := n17_; have BK258 := n18_; have BK265 := n19_; have BK310 := n20_; have HB := n21_; clear n0_ n1_ n2_ n3_ n4_ n5_ n6_ n7_ n8_ n9_ n10_ n11_ n12_ n13_ n14_ n15_ n16_ n17_ n18_ n19_ n20_ n21_; (try clear hb); (try clear hb2); (try clear hk); (try clear hi)))
        go_ret
        exact ⟨by first | rfl | (simp [errW_none, errW_some] <;> rfl) | (simp [*, errW_none, errW_some] <;> rfl), by repeat (first | (with_reducible first | exact HB.out | apply below_alloc | apply pw_below_drewN | apply below_drew1 | refine below_set ?_ GE222.out | refine below_set ?_ GE223.out | refine below_set ?_ GE244.out | refine below_set ?_ GE251.out | refine below_set ?_ GE258.out | refine below_set ?_ GE265.out | refine below_set ?_ GE310.out) | exact HB.out)⟩
       ·rw [if_neg c131] at H
        exact absurd H (by simp)
     ·replace c128 := Bool.eq_false_iff.mpr c128
      subst c128
      have H1 : (none) = some r := by rw [if_neg (show ¬ (false = true) by decide)] at H; exact H
      clear H
      have H := H1
      clear H1
      exact absurd H (by simp)
    ·rw [if_neg c123] at H
     exact absurd H (by simp)
end Go.Proofs.Ytfpoihcpjmkbkaa.OFnExactMergeReports
