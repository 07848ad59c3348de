import Derived.Test.YteefneemmdfncaaTi
/- DiffThrough's main loop, walked: each triple that is asked for tells its own story along the chain. Conditions: the theorem's own. -/
namespace Go.Proofs.Yteefneemmdfncaa.M
open Go.RowKit Go.Proofs.YteefneemmdfncaaW.Raw Go.Proofs.YteefneemmdfncaaW.PrintWords Go.Proofs.Yteefneemmdfncaa.F
set_option linter.unusedVariables false
theorem chL_small {x y : Pol} (h : OkA x) (k : OkA y) : (chL x y).length ≤ 131072 := by
  have h1 := chL_len x y
  have h2 := Nat.le_trans (relL_len x) h.2
  have h3 := Nat.le_trans (relL_len y) k.2
  omega
theorem chain_at (p0 : Pol) (l : List Pol) {k m : Nat} (h : k < m) : rd_L16 (chainTo p0 l m) (k : Int) = chL (prevP p0 l k) (prevP p0 l (k + 1)) := by
  unfold rd_L16 chainTo
  simp [List.getD_eq_getElem?_getD, h]
/-- A block of a function's code. -/
def blockOf (n : Nat) : Code → Option Code
  | .block id c => if id = n then some (.block id c) else blockOf n c
  | .seq a b => match blockOf n a with
    | some c => some c
    | none => blockOf n b
  | .loop c => blockOf n c
  | .scope c => blockOf n c
  | .cond _ a b => match blockOf n a with
    | some c => some c
    | none => blockOf n b
  | _ => none
noncomputable def code8 : Code := (Try.f11.body.bind (blockOf 8)).getD .skip
end Go.Proofs.Yteefneemmdfncaa.M
namespace Go.Proofs.Yteefneemmdfncaa.F
open Go.RowKit Go.Proofs.YteefneemmdfncaaW.Raw Go.Proofs.YteefneemmdfncaaW.PrintWords Go.Proofs.YteefneemmdfncaaW.PrintLast Go.Proofs.YteefneemmdfncaaW.PrintAll Go.Proofs.Yteefneemmdfncaa.M
set_option linter.unusedVariables false
set_option linter.unusedSimpArgs false
set_option maxRecDepth 1000000 in
set_option maxHeartbeats 16000000 in
theorem through_main (p : S28) (L : List S28) (C0 : Array Value) (m b3 : Nat) (TL : Option Addr) (uL : Nat) (AW : Option Addr) (nW cW : Nat) (T2 : Option Addr) (u2 : Nat) (ys : List S30) (WA2 : World)
    (v0 v1 v2 v4 v5 v6 v7 v8 v9 v10 v11 v13 v16 v17 v18 v20 v21 v22 v23 v24 v25 v26 v27 v28 v29 v30 v31 v32 v33 v34 v35 v36 v37 v38 v39 v40 v41 v42 v43 v44 v45 v46 v47 v48 v49 v50 v51 v52 v53 v54 v55 v56 v57 v58 v59 v60 v61 v62 v63 v64 v65 v66 v67 v68 v69 v70 v71 v72 v73 v74 v75 v76 v77 v78 v79 v80 v81 v82 v83 v84 v85 v86 v87 v88 v89 v90 v91 v92 v93 v94 v95 v96 v97 v98 v99 v100 v101 v102 v103 v104 v105 v106 v107 v108 v109 v110 v111 v112 v113 v114 v115 v116 v117 v118 v119 v120 v121 v122 v123 v124 v125 v126 v127 v128 v129 v130 v131 v132 v133 v134 v135 v136 v137 v138 v139 v140 v141 v142 v143 v144 v145 v146 v147 v148 v149 v150 v151 v152 v153 v154 v155 v156 v157 v158 v159 v160 v161 v162 v163 v164 v165 v166 v167 v168 v169 v170 v171 v172 v173 v174 v175 v176 v177 v178 v179 v180 v181 v182 v183 v184 v185 v186 v187 v188 v189 v190 v191 v192 v193 v194 v195 v196 v197 v198 v199 v200 v201 v202 v203 v204 v205 v206 v207 v208 v209 v210 v211 v212 v213 v214 v215 v216 v217 v218 v219 v220 v221 v222 v223 v224 v225 v226 v227 v228 v229 : Value) (Q0 : Exit → Act → World → Prop) (hsp : Sz p) (hok : ∀ x ∈ p :: L, OkA x) (hys : (ys.length : Int) ≤ 400) (hal : Kd.C k30 WA2 T2 ys.length ys) (hpb : WA2.heap[b3]? = some (Obj.cells C0 28 (0, 0))) (hkb : k28.K WA2 p C0.toList) (hcb : Kd.C kCs WA2 TL m (chainTo p L m))
    (hnw : nW = (chL p (prevP p L m)).length) (hwb : Kd.C k53 WA2 AW nW (chL p (prevP p L m))) (hlw : nW ≤ cW) (hnWb : nW ≤ 131072) (hm6 : m ≤ 6)
    (hexit : ∀ (u6 u19 u20 u21 u22 u23 u24 u128 u129 u130 u131 u132 u133 u134 u135 u136 u137 u138 u139 u140 u141 u142 u143 u144 u145 u146 u147 u148 u149 u150 u151 u152 u153 u154 u155 u156 u157 u158 u159 u160 u161 u162 u163 u164 u165 u166 u167 u168 u169 u170 u171 u172 u173 u174 u175 u176 u177 u178 u179 u180 u181 u182 u183 u184 u185 u186 u187 u188 u189 u190 u191 u192 u193 u194 u195 u196 u197 u198 u199 u200 u201 u202 u203 u204 u205 u206 u207 u208 u209 u210 u211 u212 u213 u214 u215 u216 u217 u218 u219 u220 u221 u222 u223 u224 u225 u226 u227 u228 u229 : Value) (w' : World), Below WA2.heap.size WA2 w' → Q0 .normal ⟨#[v0, v1, v2, .pointer (some ⟨b3, 0, none⟩), v4, v5, u6, v7, v8, v9, v10, v11, .slice TL m uL, v13, .slice AW nW cW, .slice T2 ys.length u2, v16, v17, v18, u19, u20, u21, u22, u23, u24, v25, v26, v27, v28, v29, v30, v31, v32, v33, v34, v35, v36, v37, v38, v39, v40, v41, v42, v43, v44, v45, v46, v47, v48, v49, v50, v51, v52, v53, v54, v55, v56, v57, v58, v59, v60, v61, v62, v63, v64, v65, v66, v67, v68, v69, v70, v71, v72, v73, v74, v75, v76, v77, v78, v79, v80, v81, v82, v83, v84, v85, v86, v87, v88, v89, v90, v91, v92, v93, v94, v95, v96, v97, v98, v99, v100, v101, v102, v103, v104, v105, v106, v107, v108, v109, v110, v111, v112, v113, v114, v115, v116, v117, v118, v119, v120, v121, v122, v123, v124, v125, v126, v127, u128, u129, u130, u131, u132, u133, u134, u135, u136, u137, u138, u139, u140, u141, u142, u143, u144, u145, u146, u147, u148, u149, u150, u151, u152, u153, u154, u155, u156, u157, u158, u159, u160, u161, u162, u163, u164, u165, u166, u167, u168, u169, u170, u171, u172, u173, u174, u175, u176, u177, u178, u179, u180, u181, u182, u183, u184, u185, u186, u187, u188, u189, u190, u191, u192, u193, u194, u195, u196, u197, u198, u199, u200, u201, u202, u203, u204, u205, u206, u207, u208, u209, u210, u211, u212, u213, u214, u215, u216, u217, u218, u219, u220, u221, u222, u223, u224, u225, u226, u227, u228, u229], []⟩ w') :
    Code.wp Try.prog code8 Q0 ⟨#[v0, v1, v2, .pointer (some ⟨b3, 0, none⟩), v4, v5, v6, v7, v8, v9, v10, v11, .slice TL m uL, v13, .slice AW nW cW, .slice T2 ys.length u2, v16, v17, v18, .int .i64 0, v20, v21, v22, v23, v24, v25, v26, v27, v28, v29, v30, v31, v32, v33, v34, v35, v36, v37, v38, v39, v40, v41, v42, v43, v44, v45, v46, v47, v48, v49, v50, v51, v52, v53, v54, v55, v56, v57, v58, v59, v60, v61, v62, v63, v64, v65, v66, v67, v68, v69, v70, v71, v72, v73, v74, v75, v76, v77, v78, v79, v80, v81, v82, v83, v84, v85, v86, v87, v88, v89, v90, v91, v92, v93, v94, v95, v96, v97, v98, v99, v100, v101, v102, v103, v104, v105, v106, v107, v108, v109, v110, v111, v112, v113, v114, v115, v116, v117, v118, v119, v120, v121, v122, v123, v124, v125, v126, v127, v128, v129, v130, v131, v132, v133, v134, v135, v136, v137, v138, v139, v140, v141, v142, v143, v144, v145, v146, v147, v148, v149, v150, v151, v152, v153, v154, v155, v156, v157, v158, v159, v160, v161, v162, v163, v164, v165, v166, v167, v168, v169, v170, v171, v172, v173, v174, v175, v176, v177, v178, v179, v180, v181, v182, v183, v184, v185, v186, v187, v188, v189, v190, v191, v192, v193, v194, v195, v196, v197, v198, v199, v200, v201, v202, v203, v204, v205, v206, v207, v208, v209, v210, v211, v212, v213, v214, v215, v216, v217, v218, v219, v220, v221, v222, v223, v224, v225, v226, v227, v228, v229], []⟩ WA2 := by
  have HSP := Lib.hid hsp
  have HOK := Lib.hid hok
  have HAL := Lib.hid hal
  have KPB := Lib.hid hpb
  have HKB := Lib.hid hkb
  have HCB := Lib.hid hcb
  have HNW := Lib.hid hnw
  have HWB := Lib.hid hwb
  have HLW := Lib.hid hlw
  have HEX := Lib.hid hexit
  clear hsp hok hal hpb hkb hcb hnw hwb hlw hexit
  conv => arg 2; whnf
  go_wp2_with fail
  go_loopw [19] (fun i wr => ∃ j : Nat, j ≤ ys.length ∧ i = .int .i64 (j : Nat) ∧ Hid (Below WA2.heap.size WA2 wr)) (fun i _ => ys.length - (intOf i).toNat)
  case atStart => exact ⟨0, Nat.zero_le _, rfl, Lib.hid (Below.refl _ _)⟩
  case round =>
    obtain ⟨j, hj, rfl, HB⟩ := hrel
    by_cases hlt : j < ys.length
    · obtain ⟨ad, eA, c0, c1, c2⟩ := at_T30 HAL.out (j : Int) (by omega) (by omega)
      obtain ⟨y, hy⟩ : ∃ y, y = rd_T30 ys (j : Int) := ⟨_, rfl⟩
      rw [← hy, Int.toNat_natCast] at c0 c1 c2
      have HCEL : Hid (∀ W, Below WA2.heap.size WA2 W → W.cell? (ad.add (j * 3)) = some (.string y.f0) ∧ W.cell? ⟨(ad.add (j * 3)).block, (ad.add (j * 3)).off + 1, none⟩ = some (.string y.f1) ∧ W.cell? ⟨(ad.add (j * 3)).block, (ad.add (j * 3)).off + 2, none⟩ = some (.string y.f2)) := Lib.hid (fun W hW => ⟨pw_cell_below hW c0, pw_cell_below hW c1, pw_cell_below hW c2⟩)
      subst eA
      have i0 : (0 : Int) ≤ (j : Int) := by omega
      have i1 : (j : Int) < (ys.length : Int) := by omega
      clear hy c0 c1 c2
      go_upto_region 37 with fail
      refine th37.region p y ad ys.length u2 j _ (k28.K_below HB.out HKB.out) HSP.out (okB_iff.1 HSP.out.ok) i0 i1 (fun W hW => HCEL.out W (HB.out.trans (hW.mono HB.out.size))) (by kernel_rfl) rfl rfl (blk_below KPB.out HB.out) rfl rfl ?_
      rintro xs37 w37 hb37 e37
      simp only [putZ, Act.put, List.setIfInBounds_toArray, List.set_cons_zero, List.set_cons_succ, Nat.reduceAdd]
      rw [show xs37 7 = .bool (allowsB p y) from e37]
      have HB37 := Lib.hid (HB.out.trans (hb37.mono HB.out.size))
      clear hb37 e37 HB
      go_wp2_with fail
      go_loopw [20, 22] (fun s i wr => ∃ k : Nat, k ≤ m ∧ i = .int .i64 (k : Nat) ∧ s = .bool (allowsB (prevP p L k) y) ∧ Hid (Below WA2.heap.size WA2 wr)) (fun _ i _ => m - (intOf i).toNat)
      case atStart => exact ⟨0, Nat.zero_le _, rfl, rfl, HB37⟩
      case round =>
        obtain ⟨k, hk, rfl, rfl, HBI⟩ := hrel
        clear HB37
        by_cases hk2 : k < m
        · skip
          obtain ⟨aL, AK, cK, eL, q0, lK, gK⟩ := at_L16 HCB.out (k : Int) (by omega) (by omega)
          rw [chain_at p L (show k < m from hk2), Int.toNat_natCast] at q0
          rw [chain_at p L (show k < m from hk2)] at lK gK
          have hnKb := chL_small (HOK.out _ (prevP_mem p L k)) (HOK.out _ (prevP_mem p L (k + 1)))
          obtain ⟨b1, b2, m1, m2, f1, f2, f3, f4, hc⟩ := step_cases (prevP p L k) (prevP p L (k + 1)) y
          obtain ⟨LK, hLK⟩ : ∃ l, l = chL (prevP p L k) (prevP p L (k + 1)) := ⟨_, rfl⟩
          rw [← hLK] at q0 lK gK hnKb f3 f4
          obtain ⟨nK, hnK⟩ : ∃ n, n = LK.length := ⟨_, rfl⟩
          rw [← hnK] at q0 lK gK hnKb
          have HQ : Hid (∀ W, Below WA2.heap.size WA2 W → W.cell? (aL.add k) = some (.slice AK nK cK)) := Lib.hid (fun W hW => pw_cell_below hW q0)
          have HGK := Lib.hid gK
          have HNK := Lib.hid hnK
          have HLK := Lib.hid lK
          subst eL
          rw [f1]
          have F2 := Lib.hid f2
          have F3 := Lib.hid f3
          have F4 := Lib.hid f4
          have HCC := Lib.hid hc
          have k0 : (0 : Int) ≤ (k : Int) := by omega
          have k1 : (k : Int) < (m : Int) := by omega
          clear q0 lK gK hLK hnK f1 f2 f3 f4 hc
          go_upto_region 42 with fail
          refine th42.region y ad ys.length u2 j aL m uL k AK nK cK LK i0 i1 k0 k1 (fun W hW => HCEL.out W (HBI.out.trans (hW.mono HBI.out.size))) (fun W hW => HQ.out W (HBI.out.trans (hW.mono HBI.out.size))) HNK.out (Kd.C_below HGK.out HBI.out) HLK.out (by omega) (by kernel_rfl) rfl rfl rfl rfl rfl ?_
          rintro xs42 w42 hb42 e42
          simp only [putZ, Act.put, List.setIfInBounds_toArray, List.set_cons_zero, List.set_cons_succ, Nat.reduceAdd]
          rw [show xs42 10 = .int .i64 (toldN LK ⟨y, false⟩ : Nat) from e42, F3.out]
          have HB42 := Lib.hid (HBI.out.trans (hb42.mono HBI.out.size))
          clear hb42 e42
          go_upto_region 43 with fail
          refine th43.region y ad ys.length u2 j aL m uL k AK nK cK LK i0 i1 k0 k1 (fun W hW => HCEL.out W (HB42.out.trans (hW.mono HB42.out.size))) (fun W hW => HQ.out W (HB42.out.trans (hW.mono HB42.out.size))) HNK.out (Kd.C_below HGK.out HB42.out) HLK.out (by omega) (by kernel_rfl) rfl rfl rfl rfl rfl ?_
          rintro xs43 w43 hb43 e43
          simp only [putZ, Act.put, List.setIfInBounds_toArray, List.set_cons_zero, List.set_cons_succ, Nat.reduceAdd]
          rw [show xs43 10 = .int .i64 (toldN LK ⟨y, true⟩ : Nat) from e43, F4.out]
          have HB43 := Lib.hid (HB42.out.trans (hb43.mono HB42.out.size))
          clear hb43 e43 HBI HB42 HQ HGK HNK HLK F3 F4
          rcases HCC.out with ⟨rfl, rfl, rfl, rfl⟩ | ⟨rfl, rfl, rfl, rfl⟩ | ⟨rfl, rfl, rfl, rfl⟩ | ⟨rfl, rfl, rfl, rfl⟩
          all_goals
            clear HCC
            go_wp2_with fail
            go_roundw
            case rel => exact ⟨k + 1, hk2, by go_num, by rw [F2.out], HB43⟩
            case measure => simp [intOf]; omega
        · obtain rfl : m = k := by omega
          obtain ⟨b1, b2, m1, m2, f1, f2, f3, f4, hc⟩ := step_cases p (prevP p L m) y
          rw [f1, f2]
          have HTF := Lib.hid (fun W (hW : Below wr.heap.size wr W) => told_kn (chL p (prevP p L m)) ⟨y, false⟩ AW nW cW W HNW.out (Kd.C_below HWB.out (HBI.out.trans (hW.mono HBI.out.size))) HLW.out (by omega))
          have HTT := Lib.hid (fun W (hW : Below wr.heap.size wr W) => told_kn (chL p (prevP p L m)) ⟨y, true⟩ AW nW cW W HNW.out (Kd.C_below HWB.out (HBI.out.trans (hW.mono HBI.out.size))) HLW.out (by omega))
          rw [f3] at HTF
          rw [f4] at HTT
          have HCL := Lib.hid (fun W (hW : Below wr.heap.size wr W) => HCEL.out W (HBI.out.trans (hW.mono HBI.out.size)))
          have HCC := Lib.hid hc
          clear f1 f2 f3 f4 hc hk hk2
          rcases HCC.out with ⟨rfl, rfl, rfl, rfl⟩ | ⟨rfl, rfl, rfl, rfl⟩ | ⟨rfl, rfl, rfl, rfl⟩ | ⟨rfl, rfl, rfl, rfl⟩
          all_goals
            clear HCC
            go_upto_region 47 with fail
            first
              | refine th47tt.region y ad ys.length u2 j AW nW cW i0 i1 HCL.out HTT.out HTF.out HTT.out (by kernel_rfl) rfl rfl rfl rfl rfl rfl ?_
              | refine th47ft.region y ad ys.length u2 j AW nW cW i0 i1 HCL.out HTF.out (by kernel_rfl) rfl rfl rfl rfl rfl rfl ?_
              | refine th47tf.region y ad ys.length u2 j AW nW cW i0 i1 HCL.out HTT.out (by kernel_rfl) rfl rfl rfl rfl rfl rfl ?_
              | refine th47ff.region y ad ys.length u2 j AW nW cW i0 i1 HCL.out HTF.out HTF.out HTT.out (by kernel_rfl) rfl rfl rfl rfl rfl rfl ?_
            rintro xs47 w47 hb47 e47
            simp only [putZ, Act.put, List.setIfInBounds_toArray, List.set_cons_zero, List.set_cons_succ, Nat.reduceAdd]
            rw [show xs47 36 = .bool false from e47]
            have HB47 := Lib.hid (HBI.out.trans (hb47.mono HBI.out.size))
            clear hb47 e47 HTF HTT HCL
            go_wp2_with fail
            go_roundw
            case rel => exact ⟨j + 1, hlt, by go_num, HB47⟩
            case measure => simp [intOf]; omega
    · obtain rfl : j = ys.length := by omega
      go_wp2_with fail
      exact HEX.out _ _ _ _ _ _ _ _ _ _ _ _ _ _ _ _ _ _ _ _ _ _ _ _ _ _ _ _ _ _ _ _ _ _ _ _ _ _ _ _ _ _ _ _ _ _ _ _ _ _ _ _ _ _ _ _ _ _ _ _ _ _ _ _ _ _ _ _ _ _ _ _ _ _ _ _ _ _ _ _ _ _ _ _ _ _ _ _ _ _ _ _ _ _ _ _ _ _ _ _ _ _ _ _ _ _ _ _ _ wr HB.out

end Go.Proofs.Yteefneemmdfncaa.F
