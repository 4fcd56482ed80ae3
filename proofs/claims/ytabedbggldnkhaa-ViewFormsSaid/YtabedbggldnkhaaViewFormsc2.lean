/- What the calls do: each function once. -/
import Derived.Test.YtabedbggldnkhaaViewFormsc1
namespace Go.Proofs
open Go.Gp
set_option linter.unusedVariables false
set_option maxHeartbeats 4000000 in
set_option maxRecDepth 20000 in
theorem hocketlaw14_ViewForms.calls (K : Nat) (x0 : Int) (r : Unit) (w0 w : World) (Z A : Mem) (hA : A.le Z) (hS : Sep w0 w [] Z)
    (H : hocketlaw14_ViewForms.f K x0 = some r) :
    Calls Try.prog 3 [.int .i64 x0].toArray w (Ret fun v w' => ∃ (N : Mem), v = .bool true ∧ Sep w0 w' [N] Z) := by
  unfold hocketlaw14_ViewForms.f at H
  refine f_enter _ Try.func3 rfl Try.ntmps3 rfl fun a hm => ?_
  replace hm : Fr 138 a [(0, .int .i64 x0)] := hm
  replace hS := hS.start
  replace hS : Sep w0 w [Mem.no] Z := hS
  refine wp_seq ?_
  refine wp_region_lit ?_
  refine s_assign hm rfl rfl ?_
  clear hm a; intro a hm
  refine wpList_nil ?_
  replace hm : Fr 138 a [(0, .int .i64 x0), (2, .bool false)] := hm.keep [0, 2]
  refine x_then_n ?_
  refine wp_seq ?_
  refine wp_region_lit ?_
  refine s_assign hm rfl rfl ?_
  clear hm a; intro a hm
  refine wpList_nil ?_
  replace hm : Fr 138 a [(0, .int .i64 x0), (2, .bool false), (3, .func (.func 15) #[] [].toArray)] := hm.keep [0, 2, 3]
  refine x_then_n ?_
  refine wp_seq ?_
  refine wp_region_lit ?_
  refine s_build hm rfl ti32 pl32 rfl (.cons rfl (.cons rfl (.cons rfl (.cons rfl (.cons rfl .nil))))) (cs := [.slice none 0 0, .int .i64 0, .int .i64 0, .int .i64 0, .bool false]) rfl ?_
  clear hm a; intro a hm
  refine s_move hm rfl rfl ?_
  clear hm a; intro a hm
  obtain ⟨t_1, et_1, H⟩ := Option.bind_eq_some_iff.1 H
  refine s_callv hm rfl rfl Try.call15 rfl (hocketlaw14_ViewForms_1.calls 0 0 0 true t_1 w0 _ _ _ (Mem.le.refl _) (hS.enter [] (by decide))  et_1) ?_
  rintro _ w_2 ⟨v_5, v_9, v_13, v_17, v_21, v_25, N_3, M_7, M_11, M_15, M_19, M_23, M_27, rfl, hS', hr_6, hr_10, hr_14, hr_18, hr_22, hr_26⟩
  clear hm a; intro a hm
  obtain ⟨N_4, hS'', le_4, ln_4⟩ := hS.call [] (by decide) rfl (l' := []) (ow := [M_7, M_11, M_15, M_19, M_23, M_27]) rfl hS'
  replace hS : Sep w0 w_2 [N_4, M_7, M_11, M_15, M_19, M_23, M_27] Z := hS''
  clear hS' hS''
  refine s_move hm rfl rfl ?_
  clear hm a; intro a hm
  obtain ⟨t_29, et_29, H⟩ := Option.bind_eq_some_iff.1 H
  refine s_callv hm rfl rfl Try.call15 rfl (hocketlaw14_ViewForms_1.calls 1 0 0 true t_29 w0 _ _ _ (Mem.le.refl _) (hS.enter [] (by decide))  et_29) ?_
  rintro _ w_30 ⟨v_33, v_37, v_41, v_45, v_49, v_53, N_31, M_35, M_39, M_43, M_47, M_51, M_55, rfl, hS', hr_34, hr_38, hr_42, hr_46, hr_50, hr_54⟩
  clear hm a; intro a hm
  obtain ⟨N_32, hS'', le_32, ln_32⟩ := hS.call [] (by decide) rfl (l' := []) (ow := [M_35, M_39, M_43, M_47, M_51, M_55]) rfl hS'
  replace hS : Sep w0 w_30 [N_32, M_7, M_11, M_15, M_19, M_23, M_27, M_35, M_39, M_43, M_47, M_51, M_55] Z := hS''
  clear hS' hS''
  obtain ⟨N_57, hS', le_57, lo_57⟩ := hS.freeze 0 rfl
  replace hS : Sep w0 w_30 [N_57, Mem.no, M_11, M_15, M_19, M_23, M_27, M_35, M_39, M_43, M_47, M_51, M_55] Z := hS'
  clear hS'
  obtain ⟨N_58, hS', le_58, lo_58⟩ := hS.freeze 1 rfl
  replace hS : Sep w0 w_30 [N_58, Mem.no, Mem.no, M_15, M_19, M_23, M_27, M_35, M_39, M_43, M_47, M_51, M_55] Z := hS'
  clear hS'
  obtain ⟨N_59, hS', le_59, lo_59⟩ := hS.freeze 2 rfl
  replace hS : Sep w0 w_30 [N_59, Mem.no, Mem.no, Mem.no, M_19, M_23, M_27, M_35, M_39, M_43, M_47, M_51, M_55] Z := hS'
  clear hS'
  obtain ⟨N_60, hS', le_60, lo_60⟩ := hS.freeze 3 rfl
  replace hS : Sep w0 w_30 [N_60, Mem.no, Mem.no, Mem.no, Mem.no, M_23, M_27, M_35, M_39, M_43, M_47, M_51, M_55] Z := hS'
  clear hS'
  obtain ⟨N_61, hS', le_61, lo_61⟩ := hS.freeze 4 rfl
  replace hS : Sep w0 w_30 [N_61, Mem.no, Mem.no, Mem.no, Mem.no, Mem.no, M_27, M_35, M_39, M_43, M_47, M_51, M_55] Z := hS'
  clear hS'
  obtain ⟨N_62, hS', le_62, lo_62⟩ := hS.freeze 5 rfl
  replace hS : Sep w0 w_30 [N_62, Mem.no, Mem.no, Mem.no, Mem.no, Mem.no, Mem.no, M_35, M_39, M_43, M_47, M_51, M_55] Z := hS'
  clear hS'
  obtain ⟨N_63, hS', le_63, lo_63⟩ := hS.freeze 6 rfl
  replace hS : Sep w0 w_30 [N_63, Mem.no, Mem.no, Mem.no, Mem.no, Mem.no, Mem.no, Mem.no, M_39, M_43, M_47, M_51, M_55] Z := hS'
  clear hS'
  obtain ⟨N_64, hS', le_64, lo_64⟩ := hS.freeze 7 rfl
  replace hS : Sep w0 w_30 [N_64, Mem.no, Mem.no, Mem.no, Mem.no, Mem.no, Mem.no, Mem.no, Mem.no, M_43, M_47, M_51, M_55] Z := hS'
  clear hS'
  obtain ⟨N_65, hS', le_65, lo_65⟩ := hS.freeze 8 rfl
  replace hS : Sep w0 w_30 [N_65, Mem.no, Mem.no, Mem.no, Mem.no, Mem.no, Mem.no, Mem.no, Mem.no, Mem.no, M_47, M_51, M_55] Z := hS'
  clear hS'
  obtain ⟨N_66, hS', le_66, lo_66⟩ := hS.freeze 9 rfl
  replace hS : Sep w0 w_30 [N_66, Mem.no, Mem.no, Mem.no, Mem.no, Mem.no, Mem.no, Mem.no, Mem.no, Mem.no, Mem.no, M_51, M_55] Z := hS'
  clear hS'
  obtain ⟨N_67, hS', le_67, lo_67⟩ := hS.freeze 10 rfl
  replace hS : Sep w0 w_30 [N_67, Mem.no, Mem.no, Mem.no, Mem.no, Mem.no, Mem.no, Mem.no, Mem.no, Mem.no, Mem.no, Mem.no, M_55] Z := hS'
  clear hS'
  obtain ⟨N_68, hS', le_68, lo_68⟩ := hS.freeze 11 rfl
  replace hS : Sep w0 w_30 [N_68, Mem.no, Mem.no, Mem.no, Mem.no, Mem.no, Mem.no, Mem.no, Mem.no, Mem.no, Mem.no, Mem.no, Mem.no] Z := hS'
  clear hS'
  have hq_73 : Reps k_api_Msg N_68 ([t_1, t_29] : List api_Msg) _ := ((Reps.one (d := k_api_Msg) (x := t_1) (k_api_Msg.mk' ((hr_6.rd lo_57 (Mem.no_le _)).mono (le_58.trans (le_59.trans (le_60.trans (le_61.trans (le_62.trans (le_63.trans (le_64.trans (le_65.trans (le_66.trans (le_67.trans le_68))))))))))) ((hr_10.rd lo_58 (Mem.no_le _)).mono (le_59.trans (le_60.trans (le_61.trans (le_62.trans (le_63.trans (le_64.trans (le_65.trans (le_66.trans (le_67.trans le_68)))))))))) ((hr_14.rd lo_59 (Mem.no_le _)).mono (le_60.trans (le_61.trans (le_62.trans (le_63.trans (le_64.trans (le_65.trans (le_66.trans (le_67.trans le_68))))))))) ((hr_18.rd lo_60 (Mem.no_le _)).mono (le_61.trans (le_62.trans (le_63.trans (le_64.trans (le_65.trans (le_66.trans (le_67.trans le_68)))))))) ((hr_22.rd lo_61 (Mem.no_le _)).mono (le_62.trans (le_63.trans (le_64.trans (le_65.trans (le_66.trans (le_67.trans le_68))))))) ((hr_26.rd lo_62 (Mem.no_le _)).mono (le_63.trans (le_64.trans (le_65.trans (le_66.trans (le_67.trans le_68)))))))).append ((Reps.one (d := k_api_Msg) (x := t_29) (k_api_Msg.mk' ((hr_34.rd lo_63 (Mem.no_le _)).mono (le_64.trans (le_65.trans (le_66.trans (le_67.trans le_68))))) ((hr_38.rd lo_64 (Mem.no_le _)).mono (le_65.trans (le_66.trans (le_67.trans le_68)))) ((hr_42.rd lo_65 (Mem.no_le _)).mono (le_66.trans (le_67.trans le_68))) ((hr_46.rd lo_66 (Mem.no_le _)).mono (le_67.trans le_68)) ((hr_50.rd lo_67 (Mem.no_le _)).mono le_68) (hr_54.rd lo_68 (Mem.no_le _)))).append (Reps.nil k_api_Msg _)))
  refine s_buildSlice hm rfl Try.underlying31 ti29 rfl rfl rfl (.cons rfl (.cons rfl .nil)) rfl rfl rfl hS hq_73 rfl ?_
  intro w_69 v_70 M_71 hS' ho_72
  clear hm a; intro a hm
  replace hS : Sep w0 w_69 [N_68, Mem.no, Mem.no, Mem.no, Mem.no, Mem.no, Mem.no, Mem.no, Mem.no, Mem.no, Mem.no, Mem.no, Mem.no, M_71] Z := hS'
  clear hS' hq_73
  replace hS : Sep w0 w_69 [N_68, M_71] Z := hS.sel [0, 13] (by decide)
  refine s_build hm rfl ti32 pl32 rfl (.cons ho_72.cells (.cons rfl (.cons rfl (.cons rfl (.cons rfl .nil))))) (cs := [v_70, .int .i64 0, .int .i64 0, .int .i64 0, .bool false]) rfl ?_
  clear hm a; intro a hm
  refine s_move hm rfl rfl ?_
  clear hm a; intro a hm
  obtain ⟨t_75, et_75, H⟩ := Option.bind_eq_some_iff.1 H
  refine s_callv hm rfl rfl Try.call15 rfl (hocketlaw14_ViewForms_1.calls 0 0 0 true t_75 w0 _ _ _ (Mem.le.refl _) (hS.enter [] (by decide))  et_75) ?_
  rintro _ w_76 ⟨v_79, v_83, v_87, v_91, v_95, v_99, N_77, M_81, M_85, M_89, M_93, M_97, M_101, rfl, hS', hr_80, hr_84, hr_88, hr_92, hr_96, hr_100⟩
  clear hm a; intro a hm
  obtain ⟨N_78, hS'', le_78, ln_78⟩ := hS.call [] (by decide) rfl (l' := []) (ow := [M_81, M_85, M_89, M_93, M_97, M_101]) rfl hS'
  replace hS : Sep w0 w_76 [N_78, M_71, M_81, M_85, M_89, M_93, M_97, M_101] Z := hS''
  clear hS' hS''
  refine s_move hm rfl rfl ?_
  clear hm a; intro a hm
  obtain ⟨t_103, et_103, H⟩ := Option.bind_eq_some_iff.1 H
  refine s_callv hm rfl rfl Try.call15 rfl (hocketlaw14_ViewForms_1.calls 1 0 0 true t_103 w0 _ _ _ (Mem.le.refl _) (hS.enter [] (by decide))  et_103) ?_
  rintro _ w_104 ⟨v_107, v_111, v_115, v_119, v_123, v_127, N_105, M_109, M_113, M_117, M_121, M_125, M_129, rfl, hS', hr_108, hr_112, hr_116, hr_120, hr_124, hr_128⟩
  clear hm a; intro a hm
  obtain ⟨N_106, hS'', le_106, ln_106⟩ := hS.call [] (by decide) rfl (l' := []) (ow := [M_109, M_113, M_117, M_121, M_125, M_129]) rfl hS'
  replace hS : Sep w0 w_104 [N_106, M_71, M_81, M_85, M_89, M_93, M_97, M_101, M_109, M_113, M_117, M_121, M_125, M_129] Z := hS''
  clear hS' hS''
  refine s_move hm rfl rfl ?_
  clear hm a; intro a hm
  obtain ⟨t_131, et_131, H⟩ := Option.bind_eq_some_iff.1 H
  refine s_callv hm rfl rfl Try.call15 rfl (hocketlaw14_ViewForms_1.calls 4 0 0 true t_131 w0 _ _ _ (Mem.le.refl _) (hS.enter [] (by decide))  et_131) ?_
  rintro _ w_132 ⟨v_135, v_139, v_143, v_147, v_151, v_155, N_133, M_137, M_141, M_145, M_149, M_153, M_157, rfl, hS', hr_136, hr_140, hr_144, hr_148, hr_152, hr_156⟩
  clear hm a; intro a hm
  obtain ⟨N_134, hS'', le_134, ln_134⟩ := hS.call [] (by decide) rfl (l' := []) (ow := [M_137, M_141, M_145, M_149, M_153, M_157]) rfl hS'
  replace hS : Sep w0 w_132 [N_134, M_71, M_81, M_85, M_89, M_93, M_97, M_101, M_109, M_113, M_117, M_121, M_125, M_129, M_137, M_141, M_145, M_149, M_153, M_157] Z := hS''
  clear hS' hS''
  obtain ⟨N_159, hS', le_159, lo_159⟩ := hS.freeze 1 rfl
  replace hS : Sep w0 w_132 [N_159, M_71, Mem.no, M_85, M_89, M_93, M_97, M_101, M_109, M_113, M_117, M_121, M_125, M_129, M_137, M_141, M_145, M_149, M_153, M_157] Z := hS'
  clear hS'
  obtain ⟨N_160, hS', le_160, lo_160⟩ := hS.freeze 2 rfl
  replace hS : Sep w0 w_132 [N_160, M_71, Mem.no, Mem.no, M_89, M_93, M_97, M_101, M_109, M_113, M_117, M_121, M_125, M_129, M_137, M_141, M_145, M_149, M_153, M_157] Z := hS'
  clear hS'
  obtain ⟨N_161, hS', le_161, lo_161⟩ := hS.freeze 3 rfl
  replace hS : Sep w0 w_132 [N_161, M_71, Mem.no, Mem.no, Mem.no, M_93, M_97, M_101, M_109, M_113, M_117, M_121, M_125, M_129, M_137, M_141, M_145, M_149, M_153, M_157] Z := hS'
  clear hS'
  obtain ⟨N_162, hS', le_162, lo_162⟩ := hS.freeze 4 rfl
  replace hS : Sep w0 w_132 [N_162, M_71, Mem.no, Mem.no, Mem.no, Mem.no, M_97, M_101, M_109, M_113, M_117, M_121, M_125, M_129, M_137, M_141, M_145, M_149, M_153, M_157] Z := hS'
  clear hS'
  obtain ⟨N_163, hS', le_163, lo_163⟩ := hS.freeze 5 rfl
  replace hS : Sep w0 w_132 [N_163, M_71, Mem.no, Mem.no, Mem.no, Mem.no, Mem.no, M_101, M_109, M_113, M_117, M_121, M_125, M_129, M_137, M_141, M_145, M_149, M_153, M_157] Z := hS'
  clear hS'
  obtain ⟨N_164, hS', le_164, lo_164⟩ := hS.freeze 6 rfl
  replace hS : Sep w0 w_132 [N_164, M_71, Mem.no, Mem.no, Mem.no, Mem.no, Mem.no, Mem.no, M_109, M_113, M_117, M_121, M_125, M_129, M_137, M_141, M_145, M_149, M_153, M_157] Z := hS'
  clear hS'
  obtain ⟨N_165, hS', le_165, lo_165⟩ := hS.freeze 7 rfl
  replace hS : Sep w0 w_132 [N_165, M_71, Mem.no, Mem.no, Mem.no, Mem.no, Mem.no, Mem.no, Mem.no, M_113, M_117, M_121, M_125, M_129, M_137, M_141, M_145, M_149, M_153, M_157] Z := hS'
  clear hS'
  obtain ⟨N_166, hS', le_166, lo_166⟩ := hS.freeze 8 rfl
  replace hS : Sep w0 w_132 [N_166, M_71, Mem.no, Mem.no, Mem.no, Mem.no, Mem.no, Mem.no, Mem.no, Mem.no, M_117, M_121, M_125, M_129, M_137, M_141, M_145, M_149, M_153, M_157] Z := hS'
  clear hS'
  obtain ⟨N_167, hS', le_167, lo_167⟩ := hS.freeze 9 rfl
  replace hS : Sep w0 w_132 [N_167, M_71, Mem.no, Mem.no, Mem.no, Mem.no, Mem.no, Mem.no, Mem.no, Mem.no, Mem.no, M_121, M_125, M_129, M_137, M_141, M_145, M_149, M_153, M_157] Z := hS'
  clear hS'
  obtain ⟨N_168, hS', le_168, lo_168⟩ := hS.freeze 10 rfl
  replace hS : Sep w0 w_132 [N_168, M_71, Mem.no, Mem.no, Mem.no, Mem.no, Mem.no, Mem.no, Mem.no, Mem.no, Mem.no, Mem.no, M_125, M_129, M_137, M_141, M_145, M_149, M_153, M_157] Z := hS'
  clear hS'
  obtain ⟨N_169, hS', le_169, lo_169⟩ := hS.freeze 11 rfl
  replace hS : Sep w0 w_132 [N_169, M_71, Mem.no, Mem.no, Mem.no, Mem.no, Mem.no, Mem.no, Mem.no, Mem.no, Mem.no, Mem.no, Mem.no, M_129, M_137, M_141, M_145, M_149, M_153, M_157] Z := hS'
  clear hS'
  obtain ⟨N_170, hS', le_170, lo_170⟩ := hS.freeze 12 rfl
  replace hS : Sep w0 w_132 [N_170, M_71, Mem.no, Mem.no, Mem.no, Mem.no, Mem.no, Mem.no, Mem.no, Mem.no, Mem.no, Mem.no, Mem.no, Mem.no, M_137, M_141, M_145, M_149, M_153, M_157] Z := hS'
  clear hS'
  obtain ⟨N_171, hS', le_171, lo_171⟩ := hS.freeze 13 rfl
  replace hS : Sep w0 w_132 [N_171, M_71, Mem.no, Mem.no, Mem.no, Mem.no, Mem.no, Mem.no, Mem.no, Mem.no, Mem.no, Mem.no, Mem.no, Mem.no, Mem.no, M_141, M_145, M_149, M_153, M_157] Z := hS'
  clear hS'
  obtain ⟨N_172, hS', le_172, lo_172⟩ := hS.freeze 14 rfl
  replace hS : Sep w0 w_132 [N_172, M_71, Mem.no, Mem.no, Mem.no, Mem.no, Mem.no, Mem.no, Mem.no, Mem.no, Mem.no, Mem.no, Mem.no, Mem.no, Mem.no, Mem.no, M_145, M_149, M_153, M_157] Z := hS'
  clear hS'
  obtain ⟨N_173, hS', le_173, lo_173⟩ := hS.freeze 15 rfl
  replace hS : Sep w0 w_132 [N_173, M_71, Mem.no, Mem.no, Mem.no, Mem.no, Mem.no, Mem.no, Mem.no, Mem.no, Mem.no, Mem.no, Mem.no, Mem.no, Mem.no, Mem.no, Mem.no, M_149, M_153, M_157] Z := hS'
  clear hS'
  obtain ⟨N_174, hS', le_174, lo_174⟩ := hS.freeze 16 rfl
  replace hS : Sep w0 w_132 [N_174, M_71, Mem.no, Mem.no, Mem.no, Mem.no, Mem.no, Mem.no, Mem.no, Mem.no, Mem.no, Mem.no, Mem.no, Mem.no, Mem.no, Mem.no, Mem.no, Mem.no, M_153, M_157] Z := hS'
  clear hS'
  obtain ⟨N_175, hS', le_175, lo_175⟩ := hS.freeze 17 rfl
  replace hS : Sep w0 w_132 [N_175, M_71, Mem.no, Mem.no, Mem.no, Mem.no, Mem.no, Mem.no, Mem.no, Mem.no, Mem.no, Mem.no, Mem.no, Mem.no, Mem.no, Mem.no, Mem.no, Mem.no, Mem.no, M_157] Z := hS'
  clear hS'
  obtain ⟨N_176, hS', le_176, lo_176⟩ := hS.freeze 18 rfl
  replace hS : Sep w0 w_132 [N_176, M_71, Mem.no, Mem.no, Mem.no, Mem.no, Mem.no, Mem.no, Mem.no, Mem.no, Mem.no, Mem.no, Mem.no, Mem.no, Mem.no, Mem.no, Mem.no, Mem.no, Mem.no, Mem.no] Z := hS'
  clear hS'
  have hq_181 : Reps k_api_Msg N_176 ([t_75, t_103, t_131] : List api_Msg) _ := ((Reps.one (d := k_api_Msg) (x := t_75) (k_api_Msg.mk' ((hr_80.rd lo_159 (Mem.no_le _)).mono (le_160.trans (le_161.trans (le_162.trans (le_163.trans (le_164.trans (le_165.trans (le_166.trans (le_167.trans (le_168.trans (le_169.trans (le_170.trans (le_171.trans (le_172.trans (le_173.trans (le_174.trans (le_175.trans le_176))))))))))))))))) ((hr_84.rd lo_160 (Mem.no_le _)).mono (le_161.trans (le_162.trans (le_163.trans (le_164.trans (le_165.trans (le_166.trans (le_167.trans (le_168.trans (le_169.trans (le_170.trans (le_171.trans (le_172.trans (le_173.trans (le_174.trans (le_175.trans le_176)))))))))))))))) ((hr_88.rd lo_161 (Mem.no_le _)).mono (le_162.trans (le_163.trans (le_164.trans (le_165.trans (le_166.trans (le_167.trans (le_168.trans (le_169.trans (le_170.trans (le_171.trans (le_172.trans (le_173.trans (le_174.trans (le_175.trans le_176))))))))))))))) ((hr_92.rd lo_162 (Mem.no_le _)).mono (le_163.trans (le_164.trans (le_165.trans (le_166.trans (le_167.trans (le_168.trans (le_169.trans (le_170.trans (le_171.trans (le_172.trans (le_173.trans (le_174.trans (le_175.trans le_176)))))))))))))) ((hr_96.rd lo_163 (Mem.no_le _)).mono (le_164.trans (le_165.trans (le_166.trans (le_167.trans (le_168.trans (le_169.trans (le_170.trans (le_171.trans (le_172.trans (le_173.trans (le_174.trans (le_175.trans le_176))))))))))))) ((hr_100.rd lo_164 (Mem.no_le _)).mono (le_165.trans (le_166.trans (le_167.trans (le_168.trans (le_169.trans (le_170.trans (le_171.trans (le_172.trans (le_173.trans (le_174.trans (le_175.trans le_176)))))))))))))).append ((Reps.one (d := k_api_Msg) (x := t_103) (k_api_Msg.mk' ((hr_108.rd lo_165 (Mem.no_le _)).mono (le_166.trans (le_167.trans (le_168.trans (le_169.trans (le_170.trans (le_171.trans (le_172.trans (le_173.trans (le_174.trans (le_175.trans le_176))))))))))) ((hr_112.rd lo_166 (Mem.no_le _)).mono (le_167.trans (le_168.trans (le_169.trans (le_170.trans (le_171.trans (le_172.trans (le_173.trans (le_174.trans (le_175.trans le_176)))))))))) ((hr_116.rd lo_167 (Mem.no_le _)).mono (le_168.trans (le_169.trans (le_170.trans (le_171.trans (le_172.trans (le_173.trans (le_174.trans (le_175.trans le_176))))))))) ((hr_120.rd lo_168 (Mem.no_le _)).mono (le_169.trans (le_170.trans (le_171.trans (le_172.trans (le_173.trans (le_174.trans (le_175.trans le_176)))))))) ((hr_124.rd lo_169 (Mem.no_le _)).mono (le_170.trans (le_171.trans (le_172.trans (le_173.trans (le_174.trans (le_175.trans le_176))))))) ((hr_128.rd lo_170 (Mem.no_le _)).mono (le_171.trans (le_172.trans (le_173.trans (le_174.trans (le_175.trans le_176)))))))).append ((Reps.one (d := k_api_Msg) (x := t_131) (k_api_Msg.mk' ((hr_136.rd lo_171 (Mem.no_le _)).mono (le_172.trans (le_173.trans (le_174.trans (le_175.trans le_176))))) ((hr_140.rd lo_172 (Mem.no_le _)).mono (le_173.trans (le_174.trans (le_175.trans le_176)))) ((hr_144.rd lo_173 (Mem.no_le _)).mono (le_174.trans (le_175.trans le_176))) ((hr_148.rd lo_174 (Mem.no_le _)).mono (le_175.trans le_176)) ((hr_152.rd lo_175 (Mem.no_le _)).mono le_176) (hr_156.rd lo_176 (Mem.no_le _)))).append (Reps.nil k_api_Msg _))))
  refine s_buildSlice hm rfl Try.underlying31 ti29 rfl rfl rfl (.cons rfl (.cons rfl (.cons rfl .nil))) rfl rfl rfl hS hq_181 rfl ?_
  intro w_177 v_178 M_179 hS' ho_180
  clear hm a; intro a hm
  replace hS : Sep w0 w_177 [N_176, M_71, Mem.no, Mem.no, Mem.no, Mem.no, Mem.no, Mem.no, Mem.no, Mem.no, Mem.no, Mem.no, Mem.no, Mem.no, Mem.no, Mem.no, Mem.no, Mem.no, Mem.no, Mem.no, M_179] Z := hS'
  clear hS' hq_181
  replace hS : Sep w0 w_177 [N_176, M_71, M_179] Z := hS.sel [0, 1, 20] (by decide)
  refine s_build hm rfl ti32 pl32 rfl (.cons ho_180.cells (.cons rfl (.cons rfl (.cons rfl (.cons rfl .nil))))) (cs := [v_178, .int .i64 19, .int .i64 0, .int .i64 0, .bool true]) rfl ?_
  clear hm a; intro a hm
  refine s_move hm rfl rfl ?_
  clear hm a; intro a hm
  obtain ⟨t_183, et_183, H⟩ := Option.bind_eq_some_iff.1 H
  refine s_callv hm rfl rfl Try.call15 rfl (hocketlaw14_ViewForms_1.calls 0 0 9 true t_183 w0 _ _ _ (Mem.le.refl _) (hS.enter [] (by decide))  et_183) ?_
  rintro _ w_184 ⟨v_187, v_191, v_195, v_199, v_203, v_207, N_185, M_189, M_193, M_197, M_201, M_205, M_209, rfl, hS', hr_188, hr_192, hr_196, hr_200, hr_204, hr_208⟩
  clear hm a; intro a hm
  obtain ⟨N_186, hS'', le_186, ln_186⟩ := hS.call [] (by decide) rfl (l' := []) (ow := [M_189, M_193, M_197, M_201, M_205, M_209]) rfl hS'
  replace hS : Sep w0 w_184 [N_186, M_71, M_179, M_189, M_193, M_197, M_201, M_205, M_209] Z := hS''
  clear hS' hS''
  refine s_move hm rfl rfl ?_
  clear hm a; intro a hm
  obtain ⟨t_211, et_211, H⟩ := Option.bind_eq_some_iff.1 H
  refine s_callv hm rfl rfl Try.call15 rfl (hocketlaw14_ViewForms_1.calls 1 8 2 true t_211 w0 _ _ _ (Mem.le.refl _) (hS.enter [] (by decide))  et_211) ?_
  rintro _ w_212 ⟨v_215, v_219, v_223, v_227, v_231, v_235, N_213, M_217, M_221, M_225, M_229, M_233, M_237, rfl, hS', hr_216, hr_220, hr_224, hr_228, hr_232, hr_236⟩
  clear hm a; intro a hm
  obtain ⟨N_214, hS'', le_214, ln_214⟩ := hS.call [] (by decide) rfl (l' := []) (ow := [M_217, M_221, M_225, M_229, M_233, M_237]) rfl hS'
  replace hS : Sep w0 w_212 [N_214, M_71, M_179, M_189, M_193, M_197, M_201, M_205, M_209, M_217, M_221, M_225, M_229, M_233, M_237] Z := hS''
  clear hS' hS''
  refine s_move hm rfl rfl ?_
  clear hm a; intro a hm
  obtain ⟨t_239, et_239, H⟩ := Option.bind_eq_some_iff.1 H
  refine s_callv hm rfl rfl Try.call15 rfl (hocketlaw14_ViewForms_1.calls 4 0 0 true t_239 w0 _ _ _ (Mem.le.refl _) (hS.enter [] (by decide))  et_239) ?_
  rintro _ w_240 ⟨v_243, v_247, v_251, v_255, v_259, v_263, N_241, M_245, M_249, M_253, M_257, M_261, M_265, rfl, hS', hr_244, hr_248, hr_252, hr_256, hr_260, hr_264⟩
  clear hm a; intro a hm
  obtain ⟨N_242, hS'', le_242, ln_242⟩ := hS.call [] (by decide) rfl (l' := []) (ow := [M_245, M_249, M_253, M_257, M_261, M_265]) rfl hS'
  replace hS : Sep w0 w_240 [N_242, M_71, M_179, M_189, M_193, M_197, M_201, M_205, M_209, M_217, M_221, M_225, M_229, M_233, M_237, M_245, M_249, M_253, M_257, M_261, M_265] Z := hS''
  clear hS' hS''
  obtain ⟨N_267, hS', le_267, lo_267⟩ := hS.freeze 2 rfl
  replace hS : Sep w0 w_240 [N_267, M_71, M_179, Mem.no, M_193, M_197, M_201, M_205, M_209, M_217, M_221, M_225, M_229, M_233, M_237, M_245, M_249, M_253, M_257, M_261, M_265] Z := hS'
  clear hS'
  obtain ⟨N_268, hS', le_268, lo_268⟩ := hS.freeze 3 rfl
  replace hS : Sep w0 w_240 [N_268, M_71, M_179, Mem.no, Mem.no, M_197, M_201, M_205, M_209, M_217, M_221, M_225, M_229, M_233, M_237, M_245, M_249, M_253, M_257, M_261, M_265] Z := hS'
  clear hS'
  obtain ⟨N_269, hS', le_269, lo_269⟩ := hS.freeze 4 rfl
  replace hS : Sep w0 w_240 [N_269, M_71, M_179, Mem.no, Mem.no, Mem.no, M_201, M_205, M_209, M_217, M_221, M_225, M_229, M_233, M_237, M_245, M_249, M_253, M_257, M_261, M_265] Z := hS'
  clear hS'
  obtain ⟨N_270, hS', le_270, lo_270⟩ := hS.freeze 5 rfl
  replace hS : Sep w0 w_240 [N_270, M_71, M_179, Mem.no, Mem.no, Mem.no, Mem.no, M_205, M_209, M_217, M_221, M_225, M_229, M_233, M_237, M_245, M_249, M_253, M_257, M_261, M_265] Z := hS'
  clear hS'
  obtain ⟨N_271, hS', le_271, lo_271⟩ := hS.freeze 6 rfl
  replace hS : Sep w0 w_240 [N_271, M_71, M_179, Mem.no, Mem.no, Mem.no, Mem.no, Mem.no, M_209, M_217, M_221, M_225, M_229, M_233, M_237, M_245, M_249, M_253, M_257, M_261, M_265] Z := hS'
  clear hS'
  obtain ⟨N_272, hS', le_272, lo_272⟩ := hS.freeze 7 rfl
  replace hS : Sep w0 w_240 [N_272, M_71, M_179, Mem.no, Mem.no, Mem.no, Mem.no, Mem.no, Mem.no, M_217, M_221, M_225, M_229, M_233, M_237, M_245, M_249, M_253, M_257, M_261, M_265] Z := hS'
  clear hS'
  obtain ⟨N_273, hS', le_273, lo_273⟩ := hS.freeze 8 rfl
  replace hS : Sep w0 w_240 [N_273, M_71, M_179, Mem.no, Mem.no, Mem.no, Mem.no, Mem.no, Mem.no, Mem.no, M_221, M_225, M_229, M_233, M_237, M_245, M_249, M_253, M_257, M_261, M_265] Z := hS'
  clear hS'
  obtain ⟨N_274, hS', le_274, lo_274⟩ := hS.freeze 9 rfl
  replace hS : Sep w0 w_240 [N_274, M_71, M_179, Mem.no, Mem.no, Mem.no, Mem.no, Mem.no, Mem.no, Mem.no, Mem.no, M_225, M_229, M_233, M_237, M_245, M_249, M_253, M_257, M_261, M_265] Z := hS'
  clear hS'
  obtain ⟨N_275, hS', le_275, lo_275⟩ := hS.freeze 10 rfl
  replace hS : Sep w0 w_240 [N_275, M_71, M_179, Mem.no, Mem.no, Mem.no, Mem.no, Mem.no, Mem.no, Mem.no, Mem.no, Mem.no, M_229, M_233, M_237, M_245, M_249, M_253, M_257, M_261, M_265] Z := hS'
  clear hS'
  obtain ⟨N_276, hS', le_276, lo_276⟩ := hS.freeze 11 rfl
  replace hS : Sep w0 w_240 [N_276, M_71, M_179, Mem.no, Mem.no, Mem.no, Mem.no, Mem.no, Mem.no, Mem.no, Mem.no, Mem.no, Mem.no, M_233, M_237, M_245, M_249, M_253, M_257, M_261, M_265] Z := hS'
  clear hS'
  obtain ⟨N_277, hS', le_277, lo_277⟩ := hS.freeze 12 rfl
  replace hS : Sep w0 w_240 [N_277, M_71, M_179, Mem.no, Mem.no, Mem.no, Mem.no, Mem.no, Mem.no, Mem.no, Mem.no, Mem.no, Mem.no, Mem.no, M_237, M_245, M_249, M_253, M_257, M_261, M_265] Z := hS'
  clear hS'
  obtain ⟨N_278, hS', le_278, lo_278⟩ := hS.freeze 13 rfl
  replace hS : Sep w0 w_240 [N_278, M_71, M_179, Mem.no, Mem.no, Mem.no, Mem.no, Mem.no, Mem.no, Mem.no, Mem.no, Mem.no, Mem.no, Mem.no, Mem.no, M_245, M_249, M_253, M_257, M_261, M_265] Z := hS'
  clear hS'
  obtain ⟨N_279, hS', le_279, lo_279⟩ := hS.freeze 14 rfl
  replace hS : Sep w0 w_240 [N_279, M_71, M_179, Mem.no, Mem.no, Mem.no, Mem.no, Mem.no, Mem.no, Mem.no, Mem.no, Mem.no, Mem.no, Mem.no, Mem.no, Mem.no, M_249, M_253, M_257, M_261, M_265] Z := hS'
  clear hS'
  obtain ⟨N_280, hS', le_280, lo_280⟩ := hS.freeze 15 rfl
  replace hS : Sep w0 w_240 [N_280, M_71, M_179, Mem.no, Mem.no, Mem.no, Mem.no, Mem.no, Mem.no, Mem.no, Mem.no, Mem.no, Mem.no, Mem.no, Mem.no, Mem.no, Mem.no, M_253, M_257, M_261, M_265] Z := hS'
  clear hS'
  obtain ⟨N_281, hS', le_281, lo_281⟩ := hS.freeze 16 rfl
  replace hS : Sep w0 w_240 [N_281, M_71, M_179, Mem.no, Mem.no, Mem.no, Mem.no, Mem.no, Mem.no, Mem.no, Mem.no, Mem.no, Mem.no, Mem.no, Mem.no, Mem.no, Mem.no, Mem.no, M_257, M_261, M_265] Z := hS'
  clear hS'
  obtain ⟨N_282, hS', le_282, lo_282⟩ := hS.freeze 17 rfl
  replace hS : Sep w0 w_240 [N_282, M_71, M_179, Mem.no, Mem.no, Mem.no, Mem.no, Mem.no, Mem.no, Mem.no, Mem.no, Mem.no, Mem.no, Mem.no, Mem.no, Mem.no, Mem.no, Mem.no, Mem.no, M_261, M_265] Z := hS'
  clear hS'
  obtain ⟨N_283, hS', le_283, lo_283⟩ := hS.freeze 18 rfl
  replace hS : Sep w0 w_240 [N_283, M_71, M_179, Mem.no, Mem.no, Mem.no, Mem.no, Mem.no, Mem.no, Mem.no, Mem.no, Mem.no, Mem.no, Mem.no, Mem.no, Mem.no, Mem.no, Mem.no, Mem.no, Mem.no, M_265] Z := hS'
  clear hS'
  obtain ⟨N_284, hS', le_284, lo_284⟩ := hS.freeze 19 rfl
  replace hS : Sep w0 w_240 [N_284, M_71, M_179, Mem.no, Mem.no, Mem.no, Mem.no, Mem.no, Mem.no, Mem.no, Mem.no, Mem.no, Mem.no, Mem.no, Mem.no, Mem.no, Mem.no, Mem.no, Mem.no, Mem.no, Mem.no] Z := hS'
  clear hS'
  have hq_289 : Reps k_api_Msg N_284 ([t_183, t_211, t_239] : List api_Msg) _ := ((Reps.one (d := k_api_Msg) (x := t_183) (k_api_Msg.mk' ((hr_188.rd lo_267 (Mem.no_le _)).mono (le_268.trans (le_269.trans (le_270.trans (le_271.trans (le_272.trans (le_273.trans (le_274.trans (le_275.trans (le_276.trans (le_277.trans (le_278.trans (le_279.trans (le_280.trans (le_281.trans (le_282.trans (le_283.trans le_284))))))))))))))))) ((hr_192.rd lo_268 (Mem.no_le _)).mono (le_269.trans (le_270.trans (le_271.trans (le_272.trans (le_273.trans (le_274.trans (le_275.trans (le_276.trans (le_277.trans (le_278.trans (le_279.trans (le_280.trans (le_281.trans (le_282.trans (le_283.trans le_284)))))))))))))))) ((hr_196.rd lo_269 (Mem.no_le _)).mono (le_270.trans (le_271.trans (le_272.trans (le_273.trans (le_274.trans (le_275.trans (le_276.trans (le_277.trans (le_278.trans (le_279.trans (le_280.trans (le_281.trans (le_282.trans (le_283.trans le_284))))))))))))))) ((hr_200.rd lo_270 (Mem.no_le _)).mono (le_271.trans (le_272.trans (le_273.trans (le_274.trans (le_275.trans (le_276.trans (le_277.trans (le_278.trans (le_279.trans (le_280.trans (le_281.trans (le_282.trans (le_283.trans le_284)))))))))))))) ((hr_204.rd lo_271 (Mem.no_le _)).mono (le_272.trans (le_273.trans (le_274.trans (le_275.trans (le_276.trans (le_277.trans (le_278.trans (le_279.trans (le_280.trans (le_281.trans (le_282.trans (le_283.trans le_284))))))))))))) ((hr_208.rd lo_272 (Mem.no_le _)).mono (le_273.trans (le_274.trans (le_275.trans (le_276.trans (le_277.trans (le_278.trans (le_279.trans (le_280.trans (le_281.trans (le_282.trans (le_283.trans le_284)))))))))))))).append ((Reps.one (d := k_api_Msg) (x := t_211) (k_api_Msg.mk' ((hr_216.rd lo_273 (Mem.no_le _)).mono (le_274.trans (le_275.trans (le_276.trans (le_277.trans (le_278.trans (le_279.trans (le_280.trans (le_281.trans (le_282.trans (le_283.trans le_284))))))))))) ((hr_220.rd lo_274 (Mem.no_le _)).mono (le_275.trans (le_276.trans (le_277.trans (le_278.trans (le_279.trans (le_280.trans (le_281.trans (le_282.trans (le_283.trans le_284)))))))))) ((hr_224.rd lo_275 (Mem.no_le _)).mono (le_276.trans (le_277.trans (le_278.trans (le_279.trans (le_280.trans (le_281.trans (le_282.trans (le_283.trans le_284))))))))) ((hr_228.rd lo_276 (Mem.no_le _)).mono (le_277.trans (le_278.trans (le_279.trans (le_280.trans (le_281.trans (le_282.trans (le_283.trans le_284)))))))) ((hr_232.rd lo_277 (Mem.no_le _)).mono (le_278.trans (le_279.trans (le_280.trans (le_281.trans (le_282.trans (le_283.trans le_284))))))) ((hr_236.rd lo_278 (Mem.no_le _)).mono (le_279.trans (le_280.trans (le_281.trans (le_282.trans (le_283.trans le_284)))))))).append ((Reps.one (d := k_api_Msg) (x := t_239) (k_api_Msg.mk' ((hr_244.rd lo_279 (Mem.no_le _)).mono (le_280.trans (le_281.trans (le_282.trans (le_283.trans le_284))))) ((hr_248.rd lo_280 (Mem.no_le _)).mono (le_281.trans (le_282.trans (le_283.trans le_284)))) ((hr_252.rd lo_281 (Mem.no_le _)).mono (le_282.trans (le_283.trans le_284))) ((hr_256.rd lo_282 (Mem.no_le _)).mono (le_283.trans le_284)) ((hr_260.rd lo_283 (Mem.no_le _)).mono le_284) (hr_264.rd lo_284 (Mem.no_le _)))).append (Reps.nil k_api_Msg _))))
  refine s_buildSlice hm rfl Try.underlying31 ti29 rfl rfl rfl (.cons rfl (.cons rfl (.cons rfl .nil))) rfl rfl rfl hS hq_289 rfl ?_
  intro w_285 v_286 M_287 hS' ho_288
  clear hm a; intro a hm
  replace hS : Sep w0 w_285 [N_284, M_71, M_179, Mem.no, Mem.no, Mem.no, Mem.no, Mem.no, Mem.no, Mem.no, Mem.no, Mem.no, Mem.no, Mem.no, Mem.no, Mem.no, Mem.no, Mem.no, Mem.no, Mem.no, Mem.no, M_287] Z := hS'
  clear hS' hq_289
  replace hS : Sep w0 w_285 [N_284, M_71, M_179, M_287] Z := hS.sel [0, 1, 2, 21] (by decide)
  refine s_build hm rfl ti32 pl32 rfl (.cons ho_288.cells (.cons rfl (.cons rfl (.cons rfl (.cons rfl .nil))))) (cs := [v_286, .int .i64 19, .int .i64 1, .int .i64 2, .bool true]) rfl ?_
  clear hm a; intro a hm
  refine s_move hm rfl rfl ?_
  clear hm a; intro a hm
  obtain ⟨t_291, et_291, H⟩ := Option.bind_eq_some_iff.1 H
  refine s_callv hm rfl rfl Try.call15 rfl (hocketlaw14_ViewForms_1.calls 0 0 9 true t_291 w0 _ _ _ (Mem.le.refl _) (hS.enter [] (by decide))  et_291) ?_
  rintro _ w_292 ⟨v_295, v_299, v_303, v_307, v_311, v_315, N_293, M_297, M_301, M_305, M_309, M_313, M_317, rfl, hS', hr_296, hr_300, hr_304, hr_308, hr_312, hr_316⟩
  clear hm a; intro a hm
  obtain ⟨N_294, hS'', le_294, ln_294⟩ := hS.call [] (by decide) rfl (l' := []) (ow := [M_297, M_301, M_305, M_309, M_313, M_317]) rfl hS'
  replace hS : Sep w0 w_292 [N_294, M_71, M_179, M_287, M_297, M_301, M_305, M_309, M_313, M_317] Z := hS''
  clear hS' hS''
  refine s_move hm rfl rfl ?_
  clear hm a; intro a hm
  obtain ⟨t_319, et_319, H⟩ := Option.bind_eq_some_iff.1 H
  refine s_callv hm rfl rfl Try.call15 rfl (hocketlaw14_ViewForms_1.calls 1 8 0 false t_319 w0 _ _ _ (Mem.le.refl _) (hS.enter [] (by decide))  et_319) ?_
  rintro _ w_320 ⟨v_323, v_327, v_331, v_335, v_339, v_343, N_321, M_325, M_329, M_333, M_337, M_341, M_345, rfl, hS', hr_324, hr_328, hr_332, hr_336, hr_340, hr_344⟩
  clear hm a; intro a hm
  obtain ⟨N_322, hS'', le_322, ln_322⟩ := hS.call [] (by decide) rfl (l' := []) (ow := [M_325, M_329, M_333, M_337, M_341, M_345]) rfl hS'
  replace hS : Sep w0 w_320 [N_322, M_71, M_179, M_287, M_297, M_301, M_305, M_309, M_313, M_317, M_325, M_329, M_333, M_337, M_341, M_345] Z := hS''
  clear hS' hS''
  refine s_move hm rfl rfl ?_
  clear hm a; intro a hm
  obtain ⟨t_347, et_347, H⟩ := Option.bind_eq_some_iff.1 H
  refine s_callv hm rfl rfl Try.call15 rfl (hocketlaw14_ViewForms_1.calls 4 0 0 true t_347 w0 _ _ _ (Mem.le.refl _) (hS.enter [] (by decide))  et_347) ?_
  rintro _ w_348 ⟨v_351, v_355, v_359, v_363, v_367, v_371, N_349, M_353, M_357, M_361, M_365, M_369, M_373, rfl, hS', hr_352, hr_356, hr_360, hr_364, hr_368, hr_372⟩
  clear hm a; intro a hm
  obtain ⟨N_350, hS'', le_350, ln_350⟩ := hS.call [] (by decide) rfl (l' := []) (ow := [M_353, M_357, M_361, M_365, M_369, M_373]) rfl hS'
  replace hS : Sep w0 w_348 [N_350, M_71, M_179, M_287, M_297, M_301, M_305, M_309, M_313, M_317, M_325, M_329, M_333, M_337, M_341, M_345, M_353, M_357, M_361, M_365, M_369, M_373] Z := hS''
  clear hS' hS''
  obtain ⟨N_375, hS', le_375, lo_375⟩ := hS.freeze 3 rfl
  replace hS : Sep w0 w_348 [N_375, M_71, M_179, M_287, Mem.no, M_301, M_305, M_309, M_313, M_317, M_325, M_329, M_333, M_337, M_341, M_345, M_353, M_357, M_361, M_365, M_369, M_373] Z := hS'
  clear hS'
  obtain ⟨N_376, hS', le_376, lo_376⟩ := hS.freeze 4 rfl
  replace hS : Sep w0 w_348 [N_376, M_71, M_179, M_287, Mem.no, Mem.no, M_305, M_309, M_313, M_317, M_325, M_329, M_333, M_337, M_341, M_345, M_353, M_357, M_361, M_365, M_369, M_373] Z := hS'
  clear hS'
  obtain ⟨N_377, hS', le_377, lo_377⟩ := hS.freeze 5 rfl
  replace hS : Sep w0 w_348 [N_377, M_71, M_179, M_287, Mem.no, Mem.no, Mem.no, M_309, M_313, M_317, M_325, M_329, M_333, M_337, M_341, M_345, M_353, M_357, M_361, M_365, M_369, M_373] Z := hS'
  clear hS'
  obtain ⟨N_378, hS', le_378, lo_378⟩ := hS.freeze 6 rfl
  replace hS : Sep w0 w_348 [N_378, M_71, M_179, M_287, Mem.no, Mem.no, Mem.no, Mem.no, M_313, M_317, M_325, M_329, M_333, M_337, M_341, M_345, M_353, M_357, M_361, M_365, M_369, M_373] Z := hS'
  clear hS'
  obtain ⟨N_379, hS', le_379, lo_379⟩ := hS.freeze 7 rfl
  replace hS : Sep w0 w_348 [N_379, M_71, M_179, M_287, Mem.no, Mem.no, Mem.no, Mem.no, Mem.no, M_317, M_325, M_329, M_333, M_337, M_341, M_345, M_353, M_357, M_361, M_365, M_369, M_373] Z := hS'
  clear hS'
  obtain ⟨N_380, hS', le_380, lo_380⟩ := hS.freeze 8 rfl
  replace hS : Sep w0 w_348 [N_380, M_71, M_179, M_287, Mem.no, Mem.no, Mem.no, Mem.no, Mem.no, Mem.no, M_325, M_329, M_333, M_337, M_341, M_345, M_353, M_357, M_361, M_365, M_369, M_373] Z := hS'
  clear hS'
  obtain ⟨N_381, hS', le_381, lo_381⟩ := hS.freeze 9 rfl
  replace hS : Sep w0 w_348 [N_381, M_71, M_179, M_287, Mem.no, Mem.no, Mem.no, Mem.no, Mem.no, Mem.no, Mem.no, M_329, M_333, M_337, M_341, M_345, M_353, M_357, M_361, M_365, M_369, M_373] Z := hS'
  clear hS'
  obtain ⟨N_382, hS', le_382, lo_382⟩ := hS.freeze 10 rfl
  replace hS : Sep w0 w_348 [N_382, M_71, M_179, M_287, Mem.no, Mem.no, Mem.no, Mem.no, Mem.no, Mem.no, Mem.no, Mem.no, M_333, M_337, M_341, M_345, M_353, M_357, M_361, M_365, M_369, M_373] Z := hS'
  clear hS'
  obtain ⟨N_383, hS', le_383, lo_383⟩ := hS.freeze 11 rfl
  replace hS : Sep w0 w_348 [N_383, M_71, M_179, M_287, Mem.no, Mem.no, Mem.no, Mem.no, Mem.no, Mem.no, Mem.no, Mem.no, Mem.no, M_337, M_341, M_345, M_353, M_357, M_361, M_365, M_369, M_373] Z := hS'
  clear hS'
  obtain ⟨N_384, hS', le_384, lo_384⟩ := hS.freeze 12 rfl
  replace hS : Sep w0 w_348 [N_384, M_71, M_179, M_287, Mem.no, Mem.no, Mem.no, Mem.no, Mem.no, Mem.no, Mem.no, Mem.no, Mem.no, Mem.no, M_341, M_345, M_353, M_357, M_361, M_365, M_369, M_373] Z := hS'
  clear hS'
  obtain ⟨N_385, hS', le_385, lo_385⟩ := hS.freeze 13 rfl
  replace hS : Sep w0 w_348 [N_385, M_71, M_179, M_287, Mem.no, Mem.no, Mem.no, Mem.no, Mem.no, Mem.no, Mem.no, Mem.no, Mem.no, Mem.no, Mem.no, M_345, M_353, M_357, M_361, M_365, M_369, M_373] Z := hS'
  clear hS'
  obtain ⟨N_386, hS', le_386, lo_386⟩ := hS.freeze 14 rfl
  replace hS : Sep w0 w_348 [N_386, M_71, M_179, M_287, Mem.no, Mem.no, Mem.no, Mem.no, Mem.no, Mem.no, Mem.no, Mem.no, Mem.no, Mem.no, Mem.no, Mem.no, M_353, M_357, M_361, M_365, M_369, M_373] Z := hS'
  clear hS'
  obtain ⟨N_387, hS', le_387, lo_387⟩ := hS.freeze 15 rfl
  replace hS : Sep w0 w_348 [N_387, M_71, M_179, M_287, Mem.no, Mem.no, Mem.no, Mem.no, Mem.no, Mem.no, Mem.no, Mem.no, Mem.no, Mem.no, Mem.no, Mem.no, Mem.no, M_357, M_361, M_365, M_369, M_373] Z := hS'
  clear hS'
  obtain ⟨N_388, hS', le_388, lo_388⟩ := hS.freeze 16 rfl
  replace hS : Sep w0 w_348 [N_388, M_71, M_179, M_287, Mem.no, Mem.no, Mem.no, Mem.no, Mem.no, Mem.no, Mem.no, Mem.no, Mem.no, Mem.no, Mem.no, Mem.no, Mem.no, Mem.no, M_361, M_365, M_369, M_373] Z := hS'
  clear hS'
  obtain ⟨N_389, hS', le_389, lo_389⟩ := hS.freeze 17 rfl
  replace hS : Sep w0 w_348 [N_389, M_71, M_179, M_287, Mem.no, Mem.no, Mem.no, Mem.no, Mem.no, Mem.no, Mem.no, Mem.no, Mem.no, Mem.no, Mem.no, Mem.no, Mem.no, Mem.no, Mem.no, M_365, M_369, M_373] Z := hS'
  clear hS'
  obtain ⟨N_390, hS', le_390, lo_390⟩ := hS.freeze 18 rfl
  replace hS : Sep w0 w_348 [N_390, M_71, M_179, M_287, Mem.no, Mem.no, Mem.no, Mem.no, Mem.no, Mem.no, Mem.no, Mem.no, Mem.no, Mem.no, Mem.no, Mem.no, Mem.no, Mem.no, Mem.no, Mem.no, M_369, M_373] Z := hS'
  clear hS'
  obtain ⟨N_391, hS', le_391, lo_391⟩ := hS.freeze 19 rfl
  replace hS : Sep w0 w_348 [N_391, M_71, M_179, M_287, Mem.no, Mem.no, Mem.no, Mem.no, Mem.no, Mem.no, Mem.no, Mem.no, Mem.no, Mem.no, Mem.no, Mem.no, Mem.no, Mem.no, Mem.no, Mem.no, Mem.no, M_373] Z := hS'
  clear hS'
  obtain ⟨N_392, hS', le_392, lo_392⟩ := hS.freeze 20 rfl
  replace hS : Sep w0 w_348 [N_392, M_71, M_179, M_287, Mem.no, Mem.no, Mem.no, Mem.no, Mem.no, Mem.no, Mem.no, Mem.no, Mem.no, Mem.no, Mem.no, Mem.no, Mem.no, Mem.no, Mem.no, Mem.no, Mem.no, Mem.no] Z := hS'
  clear hS'
  have hq_397 : Reps k_api_Msg N_392 ([t_291, t_319, t_347] : List api_Msg) _ := ((Reps.one (d := k_api_Msg) (x := t_291) (k_api_Msg.mk' ((hr_296.rd lo_375 (Mem.no_le _)).mono (le_376.trans (le_377.trans (le_378.trans (le_379.trans (le_380.trans (le_381.trans (le_382.trans (le_383.trans (le_384.trans (le_385.trans (le_386.trans (le_387.trans (le_388.trans (le_389.trans (le_390.trans (le_391.trans le_392))))))))))))))))) ((hr_300.rd lo_376 (Mem.no_le _)).mono (le_377.trans (le_378.trans (le_379.trans (le_380.trans (le_381.trans (le_382.trans (le_383.trans (le_384.trans (le_385.trans (le_386.trans (le_387.trans (le_388.trans (le_389.trans (le_390.trans (le_391.trans le_392)))))))))))))))) ((hr_304.rd lo_377 (Mem.no_le _)).mono (le_378.trans (le_379.trans (le_380.trans (le_381.trans (le_382.trans (le_383.trans (le_384.trans (le_385.trans (le_386.trans (le_387.trans (le_388.trans (le_389.trans (le_390.trans (le_391.trans le_392))))))))))))))) ((hr_308.rd lo_378 (Mem.no_le _)).mono (le_379.trans (le_380.trans (le_381.trans (le_382.trans (le_383.trans (le_384.trans (le_385.trans (le_386.trans (le_387.trans (le_388.trans (le_389.trans (le_390.trans (le_391.trans le_392)))))))))))))) ((hr_312.rd lo_379 (Mem.no_le _)).mono (le_380.trans (le_381.trans (le_382.trans (le_383.trans (le_384.trans (le_385.trans (le_386.trans (le_387.trans (le_388.trans (le_389.trans (le_390.trans (le_391.trans le_392))))))))))))) ((hr_316.rd lo_380 (Mem.no_le _)).mono (le_381.trans (le_382.trans (le_383.trans (le_384.trans (le_385.trans (le_386.trans (le_387.trans (le_388.trans (le_389.trans (le_390.trans (le_391.trans le_392)))))))))))))).append ((Reps.one (d := k_api_Msg) (x := t_319) (k_api_Msg.mk' ((hr_324.rd lo_381 (Mem.no_le _)).mono (le_382.trans (le_383.trans (le_384.trans (le_385.trans (le_386.trans (le_387.trans (le_388.trans (le_389.trans (le_390.trans (le_391.trans le_392))))))))))) ((hr_328.rd lo_382 (Mem.no_le _)).mono (le_383.trans (le_384.trans (le_385.trans (le_386.trans (le_387.trans (le_388.trans (le_389.trans (le_390.trans (le_391.trans le_392)))))))))) ((hr_332.rd lo_383 (Mem.no_le _)).mono (le_384.trans (le_385.trans (le_386.trans (le_387.trans (le_388.trans (le_389.trans (le_390.trans (le_391.trans le_392))))))))) ((hr_336.rd lo_384 (Mem.no_le _)).mono (le_385.trans (le_386.trans (le_387.trans (le_388.trans (le_389.trans (le_390.trans (le_391.trans le_392)))))))) ((hr_340.rd lo_385 (Mem.no_le _)).mono (le_386.trans (le_387.trans (le_388.trans (le_389.trans (le_390.trans (le_391.trans le_392))))))) ((hr_344.rd lo_386 (Mem.no_le _)).mono (le_387.trans (le_388.trans (le_389.trans (le_390.trans (le_391.trans le_392)))))))).append ((Reps.one (d := k_api_Msg) (x := t_347) (k_api_Msg.mk' ((hr_352.rd lo_387 (Mem.no_le _)).mono (le_388.trans (le_389.trans (le_390.trans (le_391.trans le_392))))) ((hr_356.rd lo_388 (Mem.no_le _)).mono (le_389.trans (le_390.trans (le_391.trans le_392)))) ((hr_360.rd lo_389 (Mem.no_le _)).mono (le_390.trans (le_391.trans le_392))) ((hr_364.rd lo_390 (Mem.no_le _)).mono (le_391.trans le_392)) ((hr_368.rd lo_391 (Mem.no_le _)).mono le_392) (hr_372.rd lo_392 (Mem.no_le _)))).append (Reps.nil k_api_Msg _))))
  refine s_buildSlice hm rfl Try.underlying31 ti29 rfl rfl rfl (.cons rfl (.cons rfl (.cons rfl .nil))) rfl rfl rfl hS hq_397 rfl ?_
  intro w_393 v_394 M_395 hS' ho_396
  clear hm a; intro a hm
  replace hS : Sep w0 w_393 [N_392, M_71, M_179, M_287, Mem.no, Mem.no, Mem.no, Mem.no, Mem.no, Mem.no, Mem.no, Mem.no, Mem.no, Mem.no, Mem.no, Mem.no, Mem.no, Mem.no, Mem.no, Mem.no, Mem.no, Mem.no, M_395] Z := hS'
  clear hS' hq_397
  replace hS : Sep w0 w_393 [N_392, M_71, M_179, M_287, M_395] Z := hS.sel [0, 1, 2, 3, 22] (by decide)
  refine s_build hm rfl ti32 pl32 rfl (.cons ho_396.cells (.cons rfl (.cons rfl (.cons rfl (.cons rfl .nil))))) (cs := [v_394, .int .i64 0, .int .i64 0, .int .i64 0, .bool false]) rfl ?_
  clear hm a; intro a hm
  refine s_move hm rfl rfl ?_
  clear hm a; intro a hm
  obtain ⟨t_399, et_399, H⟩ := Option.bind_eq_some_iff.1 H
  refine s_callv hm rfl rfl Try.call15 rfl (hocketlaw14_ViewForms_1.calls 2 8 3 true t_399 w0 _ _ _ (Mem.le.refl _) (hS.enter [] (by decide))  et_399) ?_
  rintro _ w_400 ⟨v_403, v_407, v_411, v_415, v_419, v_423, N_401, M_405, M_409, M_413, M_417, M_421, M_425, rfl, hS', hr_404, hr_408, hr_412, hr_416, hr_420, hr_424⟩
  clear hm a; intro a hm
  obtain ⟨N_402, hS'', le_402, ln_402⟩ := hS.call [] (by decide) rfl (l' := []) (ow := [M_405, M_409, M_413, M_417, M_421, M_425]) rfl hS'
  replace hS : Sep w0 w_400 [N_402, M_71, M_179, M_287, M_395, M_405, M_409, M_413, M_417, M_421, M_425] Z := hS''
  clear hS' hS''
  refine s_move hm rfl rfl ?_
  clear hm a; intro a hm
  obtain ⟨t_427, et_427, H⟩ := Option.bind_eq_some_iff.1 H
  refine s_callv hm rfl rfl Try.call15 rfl (hocketlaw14_ViewForms_1.calls 1 8 3 true t_427 w0 _ _ _ (Mem.le.refl _) (hS.enter [] (by decide))  et_427) ?_
  rintro _ w_428 ⟨v_431, v_435, v_439, v_443, v_447, v_451, N_429, M_433, M_437, M_441, M_445, M_449, M_453, rfl, hS', hr_432, hr_436, hr_440, hr_444, hr_448, hr_452⟩
  clear hm a; intro a hm
  obtain ⟨N_430, hS'', le_430, ln_430⟩ := hS.call [] (by decide) rfl (l' := []) (ow := [M_433, M_437, M_441, M_445, M_449, M_453]) rfl hS'
  replace hS : Sep w0 w_428 [N_430, M_71, M_179, M_287, M_395, M_405, M_409, M_413, M_417, M_421, M_425, M_433, M_437, M_441, M_445, M_449, M_453] Z := hS''
  clear hS' hS''
  refine s_move hm rfl rfl ?_
  clear hm a; intro a hm
  obtain ⟨t_455, et_455, H⟩ := Option.bind_eq_some_iff.1 H
  refine s_callv hm rfl rfl Try.call15 rfl (hocketlaw14_ViewForms_1.calls 4 8 2 true t_455 w0 _ _ _ (Mem.le.refl _) (hS.enter [] (by decide))  et_455) ?_
  rintro _ w_456 ⟨v_459, v_463, v_467, v_471, v_475, v_479, N_457, M_461, M_465, M_469, M_473, M_477, M_481, rfl, hS', hr_460, hr_464, hr_468, hr_472, hr_476, hr_480⟩
  clear hm a; intro a hm
  obtain ⟨N_458, hS'', le_458, ln_458⟩ := hS.call [] (by decide) rfl (l' := []) (ow := [M_461, M_465, M_469, M_473, M_477, M_481]) rfl hS'
  replace hS : Sep w0 w_456 [N_458, M_71, M_179, M_287, M_395, M_405, M_409, M_413, M_417, M_421, M_425, M_433, M_437, M_441, M_445, M_449, M_453, M_461, M_465, M_469, M_473, M_477, M_481] Z := hS''
  clear hS' hS''
  obtain ⟨N_483, hS', le_483, lo_483⟩ := hS.freeze 4 rfl
  replace hS : Sep w0 w_456 [N_483, M_71, M_179, M_287, M_395, Mem.no, M_409, M_413, M_417, M_421, M_425, M_433, M_437, M_441, M_445, M_449, M_453, M_461, M_465, M_469, M_473, M_477, M_481] Z := hS'
  clear hS'
  obtain ⟨N_484, hS', le_484, lo_484⟩ := hS.freeze 5 rfl
  replace hS : Sep w0 w_456 [N_484, M_71, M_179, M_287, M_395, Mem.no, Mem.no, M_413, M_417, M_421, M_425, M_433, M_437, M_441, M_445, M_449, M_453, M_461, M_465, M_469, M_473, M_477, M_481] Z := hS'
  clear hS'
  obtain ⟨N_485, hS', le_485, lo_485⟩ := hS.freeze 6 rfl
  replace hS : Sep w0 w_456 [N_485, M_71, M_179, M_287, M_395, Mem.no, Mem.no, Mem.no, M_417, M_421, M_425, M_433, M_437, M_441, M_445, M_449, M_453, M_461, M_465, M_469, M_473, M_477, M_481] Z := hS'
  clear hS'
  obtain ⟨N_486, hS', le_486, lo_486⟩ := hS.freeze 7 rfl
  replace hS : Sep w0 w_456 [N_486, M_71, M_179, M_287, M_395, Mem.no, Mem.no, Mem.no, Mem.no, M_421, M_425, M_433, M_437, M_441, M_445, M_449, M_453, M_461, M_465, M_469, M_473, M_477, M_481] Z := hS'
  clear hS'
  obtain ⟨N_487, hS', le_487, lo_487⟩ := hS.freeze 8 rfl
  replace hS : Sep w0 w_456 [N_487, M_71, M_179, M_287, M_395, Mem.no, Mem.no, Mem.no, Mem.no, Mem.no, M_425, M_433, M_437, M_441, M_445, M_449, M_453, M_461, M_465, M_469, M_473, M_477, M_481] Z := hS'
  clear hS'
  obtain ⟨N_488, hS', le_488, lo_488⟩ := hS.freeze 9 rfl
  replace hS : Sep w0 w_456 [N_488, M_71, M_179, M_287, M_395, Mem.no, Mem.no, Mem.no, Mem.no, Mem.no, Mem.no, M_433, M_437, M_441, M_445, M_449, M_453, M_461, M_465, M_469, M_473, M_477, M_481] Z := hS'
  clear hS'
  obtain ⟨N_489, hS', le_489, lo_489⟩ := hS.freeze 10 rfl
  replace hS : Sep w0 w_456 [N_489, M_71, M_179, M_287, M_395, Mem.no, Mem.no, Mem.no, Mem.no, Mem.no, Mem.no, Mem.no, M_437, M_441, M_445, M_449, M_453, M_461, M_465, M_469, M_473, M_477, M_481] Z := hS'
  clear hS'
  obtain ⟨N_490, hS', le_490, lo_490⟩ := hS.freeze 11 rfl
  replace hS : Sep w0 w_456 [N_490, M_71, M_179, M_287, M_395, Mem.no, Mem.no, Mem.no, Mem.no, Mem.no, Mem.no, Mem.no, Mem.no, M_441, M_445, M_449, M_453, M_461, M_465, M_469, M_473, M_477, M_481] Z := hS'
  clear hS'
  obtain ⟨N_491, hS', le_491, lo_491⟩ := hS.freeze 12 rfl
  replace hS : Sep w0 w_456 [N_491, M_71, M_179, M_287, M_395, Mem.no, Mem.no, Mem.no, Mem.no, Mem.no, Mem.no, Mem.no, Mem.no, Mem.no, M_445, M_449, M_453, M_461, M_465, M_469, M_473, M_477, M_481] Z := hS'
  clear hS'
  obtain ⟨N_492, hS', le_492, lo_492⟩ := hS.freeze 13 rfl
  replace hS : Sep w0 w_456 [N_492, M_71, M_179, M_287, M_395, Mem.no, Mem.no, Mem.no, Mem.no, Mem.no, Mem.no, Mem.no, Mem.no, Mem.no, Mem.no, M_449, M_453, M_461, M_465, M_469, M_473, M_477, M_481] Z := hS'
  clear hS'
  obtain ⟨N_493, hS', le_493, lo_493⟩ := hS.freeze 14 rfl
  replace hS : Sep w0 w_456 [N_493, M_71, M_179, M_287, M_395, Mem.no, Mem.no, Mem.no, Mem.no, Mem.no, Mem.no, Mem.no, Mem.no, Mem.no, Mem.no, Mem.no, M_453, M_461, M_465, M_469, M_473, M_477, M_481] Z := hS'
  clear hS'
  obtain ⟨N_494, hS', le_494, lo_494⟩ := hS.freeze 15 rfl
  replace hS : Sep w0 w_456 [N_494, M_71, M_179, M_287, M_395, Mem.no, Mem.no, Mem.no, Mem.no, Mem.no, Mem.no, Mem.no, Mem.no, Mem.no, Mem.no, Mem.no, Mem.no, M_461, M_465, M_469, M_473, M_477, M_481] Z := hS'
  clear hS'
  obtain ⟨N_495, hS', le_495, lo_495⟩ := hS.freeze 16 rfl
  replace hS : Sep w0 w_456 [N_495, M_71, M_179, M_287, M_395, Mem.no, Mem.no, Mem.no, Mem.no, Mem.no, Mem.no, Mem.no, Mem.no, Mem.no, Mem.no, Mem.no, Mem.no, Mem.no, M_465, M_469, M_473, M_477, M_481] Z := hS'
  clear hS'
  obtain ⟨N_496, hS', le_496, lo_496⟩ := hS.freeze 17 rfl
  replace hS : Sep w0 w_456 [N_496, M_71, M_179, M_287, M_395, Mem.no, Mem.no, Mem.no, Mem.no, Mem.no, Mem.no, Mem.no, Mem.no, Mem.no, Mem.no, Mem.no, Mem.no, Mem.no, Mem.no, M_469, M_473, M_477, M_481] Z := hS'
  clear hS'
  obtain ⟨N_497, hS', le_497, lo_497⟩ := hS.freeze 18 rfl
  replace hS : Sep w0 w_456 [N_497, M_71, M_179, M_287, M_395, Mem.no, Mem.no, Mem.no, Mem.no, Mem.no, Mem.no, Mem.no, Mem.no, Mem.no, Mem.no, Mem.no, Mem.no, Mem.no, Mem.no, Mem.no, M_473, M_477, M_481] Z := hS'
  clear hS'
  obtain ⟨N_498, hS', le_498, lo_498⟩ := hS.freeze 19 rfl
  replace hS : Sep w0 w_456 [N_498, M_71, M_179, M_287, M_395, Mem.no, Mem.no, Mem.no, Mem.no, Mem.no, Mem.no, Mem.no, Mem.no, Mem.no, Mem.no, Mem.no, Mem.no, Mem.no, Mem.no, Mem.no, Mem.no, M_477, M_481] Z := hS'
  clear hS'
  obtain ⟨N_499, hS', le_499, lo_499⟩ := hS.freeze 20 rfl
  replace hS : Sep w0 w_456 [N_499, M_71, M_179, M_287, M_395, Mem.no, Mem.no, Mem.no, Mem.no, Mem.no, Mem.no, Mem.no, Mem.no, Mem.no, Mem.no, Mem.no, Mem.no, Mem.no, Mem.no, Mem.no, Mem.no, Mem.no, M_481] Z := hS'
  clear hS'
  obtain ⟨N_500, hS', le_500, lo_500⟩ := hS.freeze 21 rfl
  replace hS : Sep w0 w_456 [N_500, M_71, M_179, M_287, M_395, Mem.no, Mem.no, Mem.no, Mem.no, Mem.no, Mem.no, Mem.no, Mem.no, Mem.no, Mem.no, Mem.no, Mem.no, Mem.no, Mem.no, Mem.no, Mem.no, Mem.no, Mem.no] Z := hS'
  clear hS'
  have hq_505 : Reps k_api_Msg N_500 ([t_399, t_427, t_455] : List api_Msg) _ := ((Reps.one (d := k_api_Msg) (x := t_399) (k_api_Msg.mk' ((hr_404.rd lo_483 (Mem.no_le _)).mono (le_484.trans (le_485.trans (le_486.trans (le_487.trans (le_488.trans (le_489.trans (le_490.trans (le_491.trans (le_492.trans (le_493.trans (le_494.trans (le_495.trans (le_496.trans (le_497.trans (le_498.trans (le_499.trans le_500))))))))))))))))) ((hr_408.rd lo_484 (Mem.no_le _)).mono (le_485.trans (le_486.trans (le_487.trans (le_488.trans (le_489.trans (le_490.trans (le_491.trans (le_492.trans (le_493.trans (le_494.trans (le_495.trans (le_496.trans (le_497.trans (le_498.trans (le_499.trans le_500)))))))))))))))) ((hr_412.rd lo_485 (Mem.no_le _)).mono (le_486.trans (le_487.trans (le_488.trans (le_489.trans (le_490.trans (le_491.trans (le_492.trans (le_493.trans (le_494.trans (le_495.trans (le_496.trans (le_497.trans (le_498.trans (le_499.trans le_500))))))))))))))) ((hr_416.rd lo_486 (Mem.no_le _)).mono (le_487.trans (le_488.trans (le_489.trans (le_490.trans (le_491.trans (le_492.trans (le_493.trans (le_494.trans (le_495.trans (le_496.trans (le_497.trans (le_498.trans (le_499.trans le_500)))))))))))))) ((hr_420.rd lo_487 (Mem.no_le _)).mono (le_488.trans (le_489.trans (le_490.trans (le_491.trans (le_492.trans (le_493.trans (le_494.trans (le_495.trans (le_496.trans (le_497.trans (le_498.trans (le_499.trans le_500))))))))))))) ((hr_424.rd lo_488 (Mem.no_le _)).mono (le_489.trans (le_490.trans (le_491.trans (le_492.trans (le_493.trans (le_494.trans (le_495.trans (le_496.trans (le_497.trans (le_498.trans (le_499.trans le_500)))))))))))))).append ((Reps.one (d := k_api_Msg) (x := t_427) (k_api_Msg.mk' ((hr_432.rd lo_489 (Mem.no_le _)).mono (le_490.trans (le_491.trans (le_492.trans (le_493.trans (le_494.trans (le_495.trans (le_496.trans (le_497.trans (le_498.trans (le_499.trans le_500))))))))))) ((hr_436.rd lo_490 (Mem.no_le _)).mono (le_491.trans (le_492.trans (le_493.trans (le_494.trans (le_495.trans (le_496.trans (le_497.trans (le_498.trans (le_499.trans le_500)))))))))) ((hr_440.rd lo_491 (Mem.no_le _)).mono (le_492.trans (le_493.trans (le_494.trans (le_495.trans (le_496.trans (le_497.trans (le_498.trans (le_499.trans le_500))))))))) ((hr_444.rd lo_492 (Mem.no_le _)).mono (le_493.trans (le_494.trans (le_495.trans (le_496.trans (le_497.trans (le_498.trans (le_499.trans le_500)))))))) ((hr_448.rd lo_493 (Mem.no_le _)).mono (le_494.trans (le_495.trans (le_496.trans (le_497.trans (le_498.trans (le_499.trans le_500))))))) ((hr_452.rd lo_494 (Mem.no_le _)).mono (le_495.trans (le_496.trans (le_497.trans (le_498.trans (le_499.trans le_500)))))))).append ((Reps.one (d := k_api_Msg) (x := t_455) (k_api_Msg.mk' ((hr_460.rd lo_495 (Mem.no_le _)).mono (le_496.trans (le_497.trans (le_498.trans (le_499.trans le_500))))) ((hr_464.rd lo_496 (Mem.no_le _)).mono (le_497.trans (le_498.trans (le_499.trans le_500)))) ((hr_468.rd lo_497 (Mem.no_le _)).mono (le_498.trans (le_499.trans le_500))) ((hr_472.rd lo_498 (Mem.no_le _)).mono (le_499.trans le_500)) ((hr_476.rd lo_499 (Mem.no_le _)).mono le_500) (hr_480.rd lo_500 (Mem.no_le _)))).append (Reps.nil k_api_Msg _))))
  refine s_buildSlice hm rfl Try.underlying31 ti29 rfl rfl rfl (.cons rfl (.cons rfl (.cons rfl .nil))) rfl rfl rfl hS hq_505 rfl ?_
  intro w_501 v_502 M_503 hS' ho_504
  clear hm a; intro a hm
  replace hS : Sep w0 w_501 [N_500, M_71, M_179, M_287, M_395, Mem.no, Mem.no, Mem.no, Mem.no, Mem.no, Mem.no, Mem.no, Mem.no, Mem.no, Mem.no, Mem.no, Mem.no, Mem.no, Mem.no, Mem.no, Mem.no, Mem.no, Mem.no, M_503] Z := hS'
  clear hS' hq_505
  replace hS : Sep w0 w_501 [N_500, M_71, M_179, M_287, M_395, M_503] Z := hS.sel [0, 1, 2, 3, 4, 23] (by decide)
  refine s_build hm rfl ti32 pl32 rfl (.cons ho_504.cells (.cons rfl (.cons rfl (.cons rfl (.cons rfl .nil))))) (cs := [v_502, .int .i64 22, .int .i64 1, .int .i64 3, .bool true]) rfl ?_
  clear hm a; intro a hm
  refine s_move hm rfl rfl ?_
  clear hm a; intro a hm
  obtain ⟨t_507, et_507, H⟩ := Option.bind_eq_some_iff.1 H
  refine s_callv hm rfl rfl Try.call15 rfl (hocketlaw14_ViewForms_1.calls 2 8 3 true t_507 w0 _ _ _ (Mem.le.refl _) (hS.enter [] (by decide))  et_507) ?_
  rintro _ w_508 ⟨v_511, v_515, v_519, v_523, v_527, v_531, N_509, M_513, M_517, M_521, M_525, M_529, M_533, rfl, hS', hr_512, hr_516, hr_520, hr_524, hr_528, hr_532⟩
  clear hm a; intro a hm
  obtain ⟨N_510, hS'', le_510, ln_510⟩ := hS.call [] (by decide) rfl (l' := []) (ow := [M_513, M_517, M_521, M_525, M_529, M_533]) rfl hS'
  replace hS : Sep w0 w_508 [N_510, M_71, M_179, M_287, M_395, M_503, M_513, M_517, M_521, M_525, M_529, M_533] Z := hS''
  clear hS' hS''
  refine s_move hm rfl rfl ?_
  clear hm a; intro a hm
  obtain ⟨t_535, et_535, H⟩ := Option.bind_eq_some_iff.1 H
  refine s_callv hm rfl rfl Try.call15 rfl (hocketlaw14_ViewForms_1.calls 1 8 9 false t_535 w0 _ _ _ (Mem.le.refl _) (hS.enter [] (by decide))  et_535) ?_
  rintro _ w_536 ⟨v_539, v_543, v_547, v_551, v_555, v_559, N_537, M_541, M_545, M_549, M_553, M_557, M_561, rfl, hS', hr_540, hr_544, hr_548, hr_552, hr_556, hr_560⟩
  clear hm a; intro a hm
  obtain ⟨N_538, hS'', le_538, ln_538⟩ := hS.call [] (by decide) rfl (l' := []) (ow := [M_541, M_545, M_549, M_553, M_557, M_561]) rfl hS'
  replace hS : Sep w0 w_536 [N_538, M_71, M_179, M_287, M_395, M_503, M_513, M_517, M_521, M_525, M_529, M_533, M_541, M_545, M_549, M_553, M_557, M_561] Z := hS''
  clear hS' hS''
  refine s_move hm rfl rfl ?_
  clear hm a; intro a hm
  obtain ⟨t_563, et_563, H⟩ := Option.bind_eq_some_iff.1 H
  refine s_callv hm rfl rfl Try.call15 rfl (hocketlaw14_ViewForms_1.calls 4 8 4 true t_563 w0 _ _ _ (Mem.le.refl _) (hS.enter [] (by decide))  et_563) ?_
  rintro _ w_564 ⟨v_567, v_571, v_575, v_579, v_583, v_587, N_565, M_569, M_573, M_577, M_581, M_585, M_589, rfl, hS', hr_568, hr_572, hr_576, hr_580, hr_584, hr_588⟩
  clear hm a; intro a hm
  obtain ⟨N_566, hS'', le_566, ln_566⟩ := hS.call [] (by decide) rfl (l' := []) (ow := [M_569, M_573, M_577, M_581, M_585, M_589]) rfl hS'
  replace hS : Sep w0 w_564 [N_566, M_71, M_179, M_287, M_395, M_503, M_513, M_517, M_521, M_525, M_529, M_533, M_541, M_545, M_549, M_553, M_557, M_561, M_569, M_573, M_577, M_581, M_585, M_589] Z := hS''
  clear hS' hS''
  obtain ⟨N_591, hS', le_591, lo_591⟩ := hS.freeze 5 rfl
  replace hS : Sep w0 w_564 [N_591, M_71, M_179, M_287, M_395, M_503, Mem.no, M_517, M_521, M_525, M_529, M_533, M_541, M_545, M_549, M_553, M_557, M_561, M_569, M_573, M_577, M_581, M_585, M_589] Z := hS'
  clear hS'
  obtain ⟨N_592, hS', le_592, lo_592⟩ := hS.freeze 6 rfl
  replace hS : Sep w0 w_564 [N_592, M_71, M_179, M_287, M_395, M_503, Mem.no, Mem.no, M_521, M_525, M_529, M_533, M_541, M_545, M_549, M_553, M_557, M_561, M_569, M_573, M_577, M_581, M_585, M_589] Z := hS'
  clear hS'
  obtain ⟨N_593, hS', le_593, lo_593⟩ := hS.freeze 7 rfl
  replace hS : Sep w0 w_564 [N_593, M_71, M_179, M_287, M_395, M_503, Mem.no, Mem.no, Mem.no, M_525, M_529, M_533, M_541, M_545, M_549, M_553, M_557, M_561, M_569, M_573, M_577, M_581, M_585, M_589] Z := hS'
  clear hS'
  obtain ⟨N_594, hS', le_594, lo_594⟩ := hS.freeze 8 rfl
  replace hS : Sep w0 w_564 [N_594, M_71, M_179, M_287, M_395, M_503, Mem.no, Mem.no, Mem.no, Mem.no, M_529, M_533, M_541, M_545, M_549, M_553, M_557, M_561, M_569, M_573, M_577, M_581, M_585, M_589] Z := hS'
  clear hS'
  obtain ⟨N_595, hS', le_595, lo_595⟩ := hS.freeze 9 rfl
  replace hS : Sep w0 w_564 [N_595, M_71, M_179, M_287, M_395, M_503, Mem.no, Mem.no, Mem.no, Mem.no, Mem.no, M_533, M_541, M_545, M_549, M_553, M_557, M_561, M_569, M_573, M_577, M_581, M_585, M_589] Z := hS'
  clear hS'
  obtain ⟨N_596, hS', le_596, lo_596⟩ := hS.freeze 10 rfl
  replace hS : Sep w0 w_564 [N_596, M_71, M_179, M_287, M_395, M_503, Mem.no, Mem.no, Mem.no, Mem.no, Mem.no, Mem.no, M_541, M_545, M_549, M_553, M_557, M_561, M_569, M_573, M_577, M_581, M_585, M_589] Z := hS'
  clear hS'
  obtain ⟨N_597, hS', le_597, lo_597⟩ := hS.freeze 11 rfl
  replace hS : Sep w0 w_564 [N_597, M_71, M_179, M_287, M_395, M_503, Mem.no, Mem.no, Mem.no, Mem.no, Mem.no, Mem.no, Mem.no, M_545, M_549, M_553, M_557, M_561, M_569, M_573, M_577, M_581, M_585, M_589] Z := hS'
  clear hS'
  obtain ⟨N_598, hS', le_598, lo_598⟩ := hS.freeze 12 rfl
  replace hS : Sep w0 w_564 [N_598, M_71, M_179, M_287, M_395, M_503, Mem.no, Mem.no, Mem.no, Mem.no, Mem.no, Mem.no, Mem.no, Mem.no, M_549, M_553, M_557, M_561, M_569, M_573, M_577, M_581, M_585, M_589] Z := hS'
  clear hS'
  obtain ⟨N_599, hS', le_599, lo_599⟩ := hS.freeze 13 rfl
  replace hS : Sep w0 w_564 [N_599, M_71, M_179, M_287, M_395, M_503, Mem.no, Mem.no, Mem.no, Mem.no, Mem.no, Mem.no, Mem.no, Mem.no, Mem.no, M_553, M_557, M_561, M_569, M_573, M_577, M_581, M_585, M_589] Z := hS'
  clear hS'
  obtain ⟨N_600, hS', le_600, lo_600⟩ := hS.freeze 14 rfl
  replace hS : Sep w0 w_564 [N_600, M_71, M_179, M_287, M_395, M_503, Mem.no, Mem.no, Mem.no, Mem.no, Mem.no, Mem.no, Mem.no, Mem.no, Mem.no, Mem.no, M_557, M_561, M_569, M_573, M_577, M_581, M_585, M_589] Z := hS'
  clear hS'
  obtain ⟨N_601, hS', le_601, lo_601⟩ := hS.freeze 15 rfl
  replace hS : Sep w0 w_564 [N_601, M_71, M_179, M_287, M_395, M_503, Mem.no, Mem.no, Mem.no, Mem.no, Mem.no, Mem.no, Mem.no, Mem.no, Mem.no, Mem.no, Mem.no, M_561, M_569, M_573, M_577, M_581, M_585, M_589] Z := hS'
  clear hS'
  obtain ⟨N_602, hS', le_602, lo_602⟩ := hS.freeze 16 rfl
  replace hS : Sep w0 w_564 [N_602, M_71, M_179, M_287, M_395, M_503, Mem.no, Mem.no, Mem.no, Mem.no, Mem.no, Mem.no, Mem.no, Mem.no, Mem.no, Mem.no, Mem.no, Mem.no, M_569, M_573, M_577, M_581, M_585, M_589] Z := hS'
  clear hS'
  obtain ⟨N_603, hS', le_603, lo_603⟩ := hS.freeze 17 rfl
  replace hS : Sep w0 w_564 [N_603, M_71, M_179, M_287, M_395, M_503, Mem.no, Mem.no, Mem.no, Mem.no, Mem.no, Mem.no, Mem.no, Mem.no, Mem.no, Mem.no, Mem.no, Mem.no, Mem.no, M_573, M_577, M_581, M_585, M_589] Z := hS'
  clear hS'
  obtain ⟨N_604, hS', le_604, lo_604⟩ := hS.freeze 18 rfl
  replace hS : Sep w0 w_564 [N_604, M_71, M_179, M_287, M_395, M_503, Mem.no, Mem.no, Mem.no, Mem.no, Mem.no, Mem.no, Mem.no, Mem.no, Mem.no, Mem.no, Mem.no, Mem.no, Mem.no, Mem.no, M_577, M_581, M_585, M_589] Z := hS'
  clear hS'
  obtain ⟨N_605, hS', le_605, lo_605⟩ := hS.freeze 19 rfl
  replace hS : Sep w0 w_564 [N_605, M_71, M_179, M_287, M_395, M_503, Mem.no, Mem.no, Mem.no, Mem.no, Mem.no, Mem.no, Mem.no, Mem.no, Mem.no, Mem.no, Mem.no, Mem.no, Mem.no, Mem.no, Mem.no, M_581, M_585, M_589] Z := hS'
  clear hS'
  obtain ⟨N_606, hS', le_606, lo_606⟩ := hS.freeze 20 rfl
  replace hS : Sep w0 w_564 [N_606, M_71, M_179, M_287, M_395, M_503, Mem.no, Mem.no, Mem.no, Mem.no, Mem.no, Mem.no, Mem.no, Mem.no, Mem.no, Mem.no, Mem.no, Mem.no, Mem.no, Mem.no, Mem.no, Mem.no, M_585, M_589] Z := hS'
  clear hS'
  obtain ⟨N_607, hS', le_607, lo_607⟩ := hS.freeze 21 rfl
  replace hS : Sep w0 w_564 [N_607, M_71, M_179, M_287, M_395, M_503, Mem.no, Mem.no, Mem.no, Mem.no, Mem.no, Mem.no, Mem.no, Mem.no, Mem.no, Mem.no, Mem.no, Mem.no, Mem.no, Mem.no, Mem.no, Mem.no, Mem.no, M_589] Z := hS'
  clear hS'
  obtain ⟨N_608, hS', le_608, lo_608⟩ := hS.freeze 22 rfl
  replace hS : Sep w0 w_564 [N_608, M_71, M_179, M_287, M_395, M_503, Mem.no, Mem.no, Mem.no, Mem.no, Mem.no, Mem.no, Mem.no, Mem.no, Mem.no, Mem.no, Mem.no, Mem.no, Mem.no, Mem.no, Mem.no, Mem.no, Mem.no, Mem.no] Z := hS'
  clear hS'
  have hq_613 : Reps k_api_Msg N_608 ([t_507, t_535, t_563] : List api_Msg) _ := ((Reps.one (d := k_api_Msg) (x := t_507) (k_api_Msg.mk' ((hr_512.rd lo_591 (Mem.no_le _)).mono (le_592.trans (le_593.trans (le_594.trans (le_595.trans (le_596.trans (le_597.trans (le_598.trans (le_599.trans (le_600.trans (le_601.trans (le_602.trans (le_603.trans (le_604.trans (le_605.trans (le_606.trans (le_607.trans le_608))))))))))))))))) ((hr_516.rd lo_592 (Mem.no_le _)).mono (le_593.trans (le_594.trans (le_595.trans (le_596.trans (le_597.trans (le_598.trans (le_599.trans (le_600.trans (le_601.trans (le_602.trans (le_603.trans (le_604.trans (le_605.trans (le_606.trans (le_607.trans le_608)))))))))))))))) ((hr_520.rd lo_593 (Mem.no_le _)).mono (le_594.trans (le_595.trans (le_596.trans (le_597.trans (le_598.trans (le_599.trans (le_600.trans (le_601.trans (le_602.trans (le_603.trans (le_604.trans (le_605.trans (le_606.trans (le_607.trans le_608))))))))))))))) ((hr_524.rd lo_594 (Mem.no_le _)).mono (le_595.trans (le_596.trans (le_597.trans (le_598.trans (le_599.trans (le_600.trans (le_601.trans (le_602.trans (le_603.trans (le_604.trans (le_605.trans (le_606.trans (le_607.trans le_608)))))))))))))) ((hr_528.rd lo_595 (Mem.no_le _)).mono (le_596.trans (le_597.trans (le_598.trans (le_599.trans (le_600.trans (le_601.trans (le_602.trans (le_603.trans (le_604.trans (le_605.trans (le_606.trans (le_607.trans le_608))))))))))))) ((hr_532.rd lo_596 (Mem.no_le _)).mono (le_597.trans (le_598.trans (le_599.trans (le_600.trans (le_601.trans (le_602.trans (le_603.trans (le_604.trans (le_605.trans (le_606.trans (le_607.trans le_608)))))))))))))).append ((Reps.one (d := k_api_Msg) (x := t_535) (k_api_Msg.mk' ((hr_540.rd lo_597 (Mem.no_le _)).mono (le_598.trans (le_599.trans (le_600.trans (le_601.trans (le_602.trans (le_603.trans (le_604.trans (le_605.trans (le_606.trans (le_607.trans le_608))))))))))) ((hr_544.rd lo_598 (Mem.no_le _)).mono (le_599.trans (le_600.trans (le_601.trans (le_602.trans (le_603.trans (le_604.trans (le_605.trans (le_606.trans (le_607.trans le_608)))))))))) ((hr_548.rd lo_599 (Mem.no_le _)).mono (le_600.trans (le_601.trans (le_602.trans (le_603.trans (le_604.trans (le_605.trans (le_606.trans (le_607.trans le_608))))))))) ((hr_552.rd lo_600 (Mem.no_le _)).mono (le_601.trans (le_602.trans (le_603.trans (le_604.trans (le_605.trans (le_606.trans (le_607.trans le_608)))))))) ((hr_556.rd lo_601 (Mem.no_le _)).mono (le_602.trans (le_603.trans (le_604.trans (le_605.trans (le_606.trans (le_607.trans le_608))))))) ((hr_560.rd lo_602 (Mem.no_le _)).mono (le_603.trans (le_604.trans (le_605.trans (le_606.trans (le_607.trans le_608)))))))).append ((Reps.one (d := k_api_Msg) (x := t_563) (k_api_Msg.mk' ((hr_568.rd lo_603 (Mem.no_le _)).mono (le_604.trans (le_605.trans (le_606.trans (le_607.trans le_608))))) ((hr_572.rd lo_604 (Mem.no_le _)).mono (le_605.trans (le_606.trans (le_607.trans le_608)))) ((hr_576.rd lo_605 (Mem.no_le _)).mono (le_606.trans (le_607.trans le_608))) ((hr_580.rd lo_606 (Mem.no_le _)).mono (le_607.trans le_608)) ((hr_584.rd lo_607 (Mem.no_le _)).mono le_608) (hr_588.rd lo_608 (Mem.no_le _)))).append (Reps.nil k_api_Msg _))))
  refine s_buildSlice hm rfl Try.underlying31 ti29 rfl rfl rfl (.cons rfl (.cons rfl (.cons rfl .nil))) rfl rfl rfl hS hq_613 rfl ?_
  intro w_609 v_610 M_611 hS' ho_612
  clear hm a; intro a hm
  replace hS : Sep w0 w_609 [N_608, M_71, M_179, M_287, M_395, M_503, Mem.no, Mem.no, Mem.no, Mem.no, Mem.no, Mem.no, Mem.no, Mem.no, Mem.no, Mem.no, Mem.no, Mem.no, Mem.no, Mem.no, Mem.no, Mem.no, Mem.no, Mem.no, M_611] Z := hS'
  clear hS' hq_613
  replace hS : Sep w0 w_609 [N_608, M_71, M_179, M_287, M_395, M_503, M_611] Z := hS.sel [0, 1, 2, 3, 4, 5, 24] (by decide)
  refine s_build hm rfl ti32 pl32 rfl (.cons ho_612.cells (.cons rfl (.cons rfl (.cons rfl (.cons rfl .nil))))) (cs := [v_610, .int .i64 22, .int .i64 4, .int .i64 4, .bool true]) rfl ?_
  clear hm a; intro a hm
  refine s_move hm rfl rfl ?_
  clear hm a; intro a hm
  obtain ⟨t_615, et_615, H⟩ := Option.bind_eq_some_iff.1 H
  refine s_callv hm rfl rfl Try.call15 rfl (hocketlaw14_ViewForms_1.calls 2 8 3 true t_615 w0 _ _ _ (Mem.le.refl _) (hS.enter [] (by decide))  et_615) ?_
  rintro _ w_616 ⟨v_619, v_623, v_627, v_631, v_635, v_639, N_617, M_621, M_625, M_629, M_633, M_637, M_641, rfl, hS', hr_620, hr_624, hr_628, hr_632, hr_636, hr_640⟩
  clear hm a; intro a hm
  obtain ⟨N_618, hS'', le_618, ln_618⟩ := hS.call [] (by decide) rfl (l' := []) (ow := [M_621, M_625, M_629, M_633, M_637, M_641]) rfl hS'
  replace hS : Sep w0 w_616 [N_618, M_71, M_179, M_287, M_395, M_503, M_611, M_621, M_625, M_629, M_633, M_637, M_641] Z := hS''
  clear hS' hS''
  refine s_move hm rfl rfl ?_
  clear hm a; intro a hm
  obtain ⟨t_643, et_643, H⟩ := Option.bind_eq_some_iff.1 H
  refine s_callv hm rfl rfl Try.call15 rfl (hocketlaw14_ViewForms_1.calls 2 16 9 true t_643 w0 _ _ _ (Mem.le.refl _) (hS.enter [] (by decide))  et_643) ?_
  rintro _ w_644 ⟨v_647, v_651, v_655, v_659, v_663, v_667, N_645, M_649, M_653, M_657, M_661, M_665, M_669, rfl, hS', hr_648, hr_652, hr_656, hr_660, hr_664, hr_668⟩
  clear hm a; intro a hm
  obtain ⟨N_646, hS'', le_646, ln_646⟩ := hS.call [] (by decide) rfl (l' := []) (ow := [M_649, M_653, M_657, M_661, M_665, M_669]) rfl hS'
  replace hS : Sep w0 w_644 [N_646, M_71, M_179, M_287, M_395, M_503, M_611, M_621, M_625, M_629, M_633, M_637, M_641, M_649, M_653, M_657, M_661, M_665, M_669] Z := hS''
  clear hS' hS''
  refine s_move hm rfl rfl ?_
  clear hm a; intro a hm
  obtain ⟨t_671, et_671, H⟩ := Option.bind_eq_some_iff.1 H
  refine s_callv hm rfl rfl Try.call15 rfl (hocketlaw14_ViewForms_1.calls 1 8 1 true t_671 w0 _ _ _ (Mem.le.refl _) (hS.enter [] (by decide))  et_671) ?_
  rintro _ w_672 ⟨v_675, v_679, v_683, v_687, v_691, v_695, N_673, M_677, M_681, M_685, M_689, M_693, M_697, rfl, hS', hr_676, hr_680, hr_684, hr_688, hr_692, hr_696⟩
  clear hm a; intro a hm
  obtain ⟨N_674, hS'', le_674, ln_674⟩ := hS.call [] (by decide) rfl (l' := []) (ow := [M_677, M_681, M_685, M_689, M_693, M_697]) rfl hS'
  replace hS : Sep w0 w_672 [N_674, M_71, M_179, M_287, M_395, M_503, M_611, M_621, M_625, M_629, M_633, M_637, M_641, M_649, M_653, M_657, M_661, M_665, M_669, M_677, M_681, M_685, M_689, M_693, M_697] Z := hS''
  clear hS' hS''
  refine s_move hm rfl rfl ?_
  clear hm a; intro a hm
  obtain ⟨t_699, et_699, H⟩ := Option.bind_eq_some_iff.1 H
  refine s_callv hm rfl rfl Try.call15 rfl (hocketlaw14_ViewForms_1.calls 4 8 4 true t_699 w0 _ _ _ (Mem.le.refl _) (hS.enter [] (by decide))  et_699) ?_
  rintro _ w_700 ⟨v_703, v_707, v_711, v_715, v_719, v_723, N_701, M_705, M_709, M_713, M_717, M_721, M_725, rfl, hS', hr_704, hr_708, hr_712, hr_716, hr_720, hr_724⟩
  clear hm a; intro a hm
  obtain ⟨N_702, hS'', le_702, ln_702⟩ := hS.call [] (by decide) rfl (l' := []) (ow := [M_705, M_709, M_713, M_717, M_721, M_725]) rfl hS'
  replace hS : Sep w0 w_700 [N_702, M_71, M_179, M_287, M_395, M_503, M_611, M_621, M_625, M_629, M_633, M_637, M_641, M_649, M_653, M_657, M_661, M_665, M_669, M_677, M_681, M_685, M_689, M_693, M_697, M_705, M_709, M_713, M_717, M_721, M_725] Z := hS''
  clear hS' hS''
  obtain ⟨N_727, hS', le_727, lo_727⟩ := hS.freeze 6 rfl
  replace hS : Sep w0 w_700 [N_727, M_71, M_179, M_287, M_395, M_503, M_611, Mem.no, M_625, M_629, M_633, M_637, M_641, M_649, M_653, M_657, M_661, M_665, M_669, M_677, M_681, M_685, M_689, M_693, M_697, M_705, M_709, M_713, M_717, M_721, M_725] Z := hS'
  clear hS'
  obtain ⟨N_728, hS', le_728, lo_728⟩ := hS.freeze 7 rfl
  replace hS : Sep w0 w_700 [N_728, M_71, M_179, M_287, M_395, M_503, M_611, Mem.no, Mem.no, M_629, M_633, M_637, M_641, M_649, M_653, M_657, M_661, M_665, M_669, M_677, M_681, M_685, M_689, M_693, M_697, M_705, M_709, M_713, M_717, M_721, M_725] Z := hS'
  clear hS'
  obtain ⟨N_729, hS', le_729, lo_729⟩ := hS.freeze 8 rfl
  replace hS : Sep w0 w_700 [N_729, M_71, M_179, M_287, M_395, M_503, M_611, Mem.no, Mem.no, Mem.no, M_633, M_637, M_641, M_649, M_653, M_657, M_661, M_665, M_669, M_677, M_681, M_685, M_689, M_693, M_697, M_705, M_709, M_713, M_717, M_721, M_725] Z := hS'
  clear hS'
  obtain ⟨N_730, hS', le_730, lo_730⟩ := hS.freeze 9 rfl
  replace hS : Sep w0 w_700 [N_730, M_71, M_179, M_287, M_395, M_503, M_611, Mem.no, Mem.no, Mem.no, Mem.no, M_637, M_641, M_649, M_653, M_657, M_661, M_665, M_669, M_677, M_681, M_685, M_689, M_693, M_697, M_705, M_709, M_713, M_717, M_721, M_725] Z := hS'
  clear hS'
  obtain ⟨N_731, hS', le_731, lo_731⟩ := hS.freeze 10 rfl
  replace hS : Sep w0 w_700 [N_731, M_71, M_179, M_287, M_395, M_503, M_611, Mem.no, Mem.no, Mem.no, Mem.no, Mem.no, M_641, M_649, M_653, M_657, M_661, M_665, M_669, M_677, M_681, M_685, M_689, M_693, M_697, M_705, M_709, M_713, M_717, M_721, M_725] Z := hS'
  clear hS'
  obtain ⟨N_732, hS', le_732, lo_732⟩ := hS.freeze 11 rfl
  replace hS : Sep w0 w_700 [N_732, M_71, M_179, M_287, M_395, M_503, M_611, Mem.no, Mem.no, Mem.no, Mem.no, Mem.no, Mem.no, M_649, M_653, M_657, M_661, M_665, M_669, M_677, M_681, M_685, M_689, M_693, M_697, M_705, M_709, M_713, M_717, M_721, M_725] Z := hS'
  clear hS'
  obtain ⟨N_733, hS', le_733, lo_733⟩ := hS.freeze 12 rfl
  replace hS : Sep w0 w_700 [N_733, M_71, M_179, M_287, M_395, M_503, M_611, Mem.no, Mem.no, Mem.no, Mem.no, Mem.no, Mem.no, Mem.no, M_653, M_657, M_661, M_665, M_669, M_677, M_681, M_685, M_689, M_693, M_697, M_705, M_709, M_713, M_717, M_721, M_725] Z := hS'
  clear hS'
  obtain ⟨N_734, hS', le_734, lo_734⟩ := hS.freeze 13 rfl
  replace hS : Sep w0 w_700 [N_734, M_71, M_179, M_287, M_395, M_503, M_611, Mem.no, Mem.no, Mem.no, Mem.no, Mem.no, Mem.no, Mem.no, Mem.no, M_657, M_661, M_665, M_669, M_677, M_681, M_685, M_689, M_693, M_697, M_705, M_709, M_713, M_717, M_721, M_725] Z := hS'
  clear hS'
  obtain ⟨N_735, hS', le_735, lo_735⟩ := hS.freeze 14 rfl
  replace hS : Sep w0 w_700 [N_735, M_71, M_179, M_287, M_395, M_503, M_611, Mem.no, Mem.no, Mem.no, Mem.no, Mem.no, Mem.no, Mem.no, Mem.no, Mem.no, M_661, M_665, M_669, M_677, M_681, M_685, M_689, M_693, M_697, M_705, M_709, M_713, M_717, M_721, M_725] Z := hS'
  clear hS'
  obtain ⟨N_736, hS', le_736, lo_736⟩ := hS.freeze 15 rfl
  replace hS : Sep w0 w_700 [N_736, M_71, M_179, M_287, M_395, M_503, M_611, Mem.no, Mem.no, Mem.no, Mem.no, Mem.no, Mem.no, Mem.no, Mem.no, Mem.no, Mem.no, M_665, M_669, M_677, M_681, M_685, M_689, M_693, M_697, M_705, M_709, M_713, M_717, M_721, M_725] Z := hS'
  clear hS'
  obtain ⟨N_737, hS', le_737, lo_737⟩ := hS.freeze 16 rfl
  replace hS : Sep w0 w_700 [N_737, M_71, M_179, M_287, M_395, M_503, M_611, Mem.no, Mem.no, Mem.no, Mem.no, Mem.no, Mem.no, Mem.no, Mem.no, Mem.no, Mem.no, Mem.no, M_669, M_677, M_681, M_685, M_689, M_693, M_697, M_705, M_709, M_713, M_717, M_721, M_725] Z := hS'
  clear hS'
  obtain ⟨N_738, hS', le_738, lo_738⟩ := hS.freeze 17 rfl
  replace hS : Sep w0 w_700 [N_738, M_71, M_179, M_287, M_395, M_503, M_611, Mem.no, Mem.no, Mem.no, Mem.no, Mem.no, Mem.no, Mem.no, Mem.no, Mem.no, Mem.no, Mem.no, Mem.no, M_677, M_681, M_685, M_689, M_693, M_697, M_705, M_709, M_713, M_717, M_721, M_725] Z := hS'
  clear hS'
  obtain ⟨N_739, hS', le_739, lo_739⟩ := hS.freeze 18 rfl
  replace hS : Sep w0 w_700 [N_739, M_71, M_179, M_287, M_395, M_503, M_611, Mem.no, Mem.no, Mem.no, Mem.no, Mem.no, Mem.no, Mem.no, Mem.no, Mem.no, Mem.no, Mem.no, Mem.no, Mem.no, M_681, M_685, M_689, M_693, M_697, M_705, M_709, M_713, M_717, M_721, M_725] Z := hS'
  clear hS'
  obtain ⟨N_740, hS', le_740, lo_740⟩ := hS.freeze 19 rfl
  replace hS : Sep w0 w_700 [N_740, M_71, M_179, M_287, M_395, M_503, M_611, Mem.no, Mem.no, Mem.no, Mem.no, Mem.no, Mem.no, Mem.no, Mem.no, Mem.no, Mem.no, Mem.no, Mem.no, Mem.no, Mem.no, M_685, M_689, M_693, M_697, M_705, M_709, M_713, M_717, M_721, M_725] Z := hS'
  clear hS'
  obtain ⟨N_741, hS', le_741, lo_741⟩ := hS.freeze 20 rfl
  replace hS : Sep w0 w_700 [N_741, M_71, M_179, M_287, M_395, M_503, M_611, Mem.no, Mem.no, Mem.no, Mem.no, Mem.no, Mem.no, Mem.no, Mem.no, Mem.no, Mem.no, Mem.no, Mem.no, Mem.no, Mem.no, Mem.no, M_689, M_693, M_697, M_705, M_709, M_713, M_717, M_721, M_725] Z := hS'
  clear hS'
  obtain ⟨N_742, hS', le_742, lo_742⟩ := hS.freeze 21 rfl
  replace hS : Sep w0 w_700 [N_742, M_71, M_179, M_287, M_395, M_503, M_611, Mem.no, Mem.no, Mem.no, Mem.no, Mem.no, Mem.no, Mem.no, Mem.no, Mem.no, Mem.no, Mem.no, Mem.no, Mem.no, Mem.no, Mem.no, Mem.no, M_693, M_697, M_705, M_709, M_713, M_717, M_721, M_725] Z := hS'
  clear hS'
  obtain ⟨N_743, hS', le_743, lo_743⟩ := hS.freeze 22 rfl
  replace hS : Sep w0 w_700 [N_743, M_71, M_179, M_287, M_395, M_503, M_611, Mem.no, Mem.no, Mem.no, Mem.no, Mem.no, Mem.no, Mem.no, Mem.no, Mem.no, Mem.no, Mem.no, Mem.no, Mem.no, Mem.no, Mem.no, Mem.no, Mem.no, M_697, M_705, M_709, M_713, M_717, M_721, M_725] Z := hS'
  clear hS'
  obtain ⟨N_744, hS', le_744, lo_744⟩ := hS.freeze 23 rfl
  replace hS : Sep w0 w_700 [N_744, M_71, M_179, M_287, M_395, M_503, M_611, Mem.no, Mem.no, Mem.no, Mem.no, Mem.no, Mem.no, Mem.no, Mem.no, Mem.no, Mem.no, Mem.no, Mem.no, Mem.no, Mem.no, Mem.no, Mem.no, Mem.no, Mem.no, M_705, M_709, M_713, M_717, M_721, M_725] Z := hS'
  clear hS'
  obtain ⟨N_745, hS', le_745, lo_745⟩ := hS.freeze 24 rfl
  replace hS : Sep w0 w_700 [N_745, M_71, M_179, M_287, M_395, M_503, M_611, Mem.no, Mem.no, Mem.no, Mem.no, Mem.no, Mem.no, Mem.no, Mem.no, Mem.no, Mem.no, Mem.no, Mem.no, Mem.no, Mem.no, Mem.no, Mem.no, Mem.no, Mem.no, Mem.no, M_709, M_713, M_717, M_721, M_725] Z := hS'
  clear hS'
  obtain ⟨N_746, hS', le_746, lo_746⟩ := hS.freeze 25 rfl
  replace hS : Sep w0 w_700 [N_746, M_71, M_179, M_287, M_395, M_503, M_611, Mem.no, Mem.no, Mem.no, Mem.no, Mem.no, Mem.no, Mem.no, Mem.no, Mem.no, Mem.no, Mem.no, Mem.no, Mem.no, Mem.no, Mem.no, Mem.no, Mem.no, Mem.no, Mem.no, Mem.no, M_713, M_717, M_721, M_725] Z := hS'
  clear hS'
  obtain ⟨N_747, hS', le_747, lo_747⟩ := hS.freeze 26 rfl
  replace hS : Sep w0 w_700 [N_747, M_71, M_179, M_287, M_395, M_503, M_611, Mem.no, Mem.no, Mem.no, Mem.no, Mem.no, Mem.no, Mem.no, Mem.no, Mem.no, Mem.no, Mem.no, Mem.no, Mem.no, Mem.no, Mem.no, Mem.no, Mem.no, Mem.no, Mem.no, Mem.no, Mem.no, M_717, M_721, M_725] Z := hS'
  clear hS'
  obtain ⟨N_748, hS', le_748, lo_748⟩ := hS.freeze 27 rfl
  replace hS : Sep w0 w_700 [N_748, M_71, M_179, M_287, M_395, M_503, M_611, Mem.no, Mem.no, Mem.no, Mem.no, Mem.no, Mem.no, Mem.no, Mem.no, Mem.no, Mem.no, Mem.no, Mem.no, Mem.no, Mem.no, Mem.no, Mem.no, Mem.no, Mem.no, Mem.no, Mem.no, Mem.no, Mem.no, M_721, M_725] Z := hS'
  clear hS'
  obtain ⟨N_749, hS', le_749, lo_749⟩ := hS.freeze 28 rfl
  replace hS : Sep w0 w_700 [N_749, M_71, M_179, M_287, M_395, M_503, M_611, Mem.no, Mem.no, Mem.no, Mem.no, Mem.no, Mem.no, Mem.no, Mem.no, Mem.no, Mem.no, Mem.no, Mem.no, Mem.no, Mem.no, Mem.no, Mem.no, Mem.no, Mem.no, Mem.no, Mem.no, Mem.no, Mem.no, Mem.no, M_725] Z := hS'
  clear hS'
  obtain ⟨N_750, hS', le_750, lo_750⟩ := hS.freeze 29 rfl
  replace hS : Sep w0 w_700 [N_750, M_71, M_179, M_287, M_395, M_503, M_611, Mem.no, Mem.no, Mem.no, Mem.no, Mem.no, Mem.no, Mem.no, Mem.no, Mem.no, Mem.no, Mem.no, Mem.no, Mem.no, Mem.no, Mem.no, Mem.no, Mem.no, Mem.no, Mem.no, Mem.no, Mem.no, Mem.no, Mem.no, Mem.no] Z := hS'
  clear hS'
  have hq_755 : Reps k_api_Msg N_750 ([t_615, t_643, t_671, t_699] : List api_Msg) _ := ((Reps.one (d := k_api_Msg) (x := t_615) (k_api_Msg.mk' ((hr_620.rd lo_727 (Mem.no_le _)).mono (le_728.trans (le_729.trans (le_730.trans (le_731.trans (le_732.trans (le_733.trans (le_734.trans (le_735.trans (le_736.trans (le_737.trans (le_738.trans (le_739.trans (le_740.trans (le_741.trans (le_742.trans (le_743.trans (le_744.trans (le_745.trans (le_746.trans (le_747.trans (le_748.trans (le_749.trans le_750))))))))))))))))))))))) ((hr_624.rd lo_728 (Mem.no_le _)).mono (le_729.trans (le_730.trans (le_731.trans (le_732.trans (le_733.trans (le_734.trans (le_735.trans (le_736.trans (le_737.trans (le_738.trans (le_739.trans (le_740.trans (le_741.trans (le_742.trans (le_743.trans (le_744.trans (le_745.trans (le_746.trans (le_747.trans (le_748.trans (le_749.trans le_750)))))))))))))))))))))) ((hr_628.rd lo_729 (Mem.no_le _)).mono (le_730.trans (le_731.trans (le_732.trans (le_733.trans (le_734.trans (le_735.trans (le_736.trans (le_737.trans (le_738.trans (le_739.trans (le_740.trans (le_741.trans (le_742.trans (le_743.trans (le_744.trans (le_745.trans (le_746.trans (le_747.trans (le_748.trans (le_749.trans le_750))))))))))))))))))))) ((hr_632.rd lo_730 (Mem.no_le _)).mono (le_731.trans (le_732.trans (le_733.trans (le_734.trans (le_735.trans (le_736.trans (le_737.trans (le_738.trans (le_739.trans (le_740.trans (le_741.trans (le_742.trans (le_743.trans (le_744.trans (le_745.trans (le_746.trans (le_747.trans (le_748.trans (le_749.trans le_750)))))))))))))))))))) ((hr_636.rd lo_731 (Mem.no_le _)).mono (le_732.trans (le_733.trans (le_734.trans (le_735.trans (le_736.trans (le_737.trans (le_738.trans (le_739.trans (le_740.trans (le_741.trans (le_742.trans (le_743.trans (le_744.trans (le_745.trans (le_746.trans (le_747.trans (le_748.trans (le_749.trans le_750))))))))))))))))))) ((hr_640.rd lo_732 (Mem.no_le _)).mono (le_733.trans (le_734.trans (le_735.trans (le_736.trans (le_737.trans (le_738.trans (le_739.trans (le_740.trans (le_741.trans (le_742.trans (le_743.trans (le_744.trans (le_745.trans (le_746.trans (le_747.trans (le_748.trans (le_749.trans le_750)))))))))))))))))))).append ((Reps.one (d := k_api_Msg) (x := t_643) (k_api_Msg.mk' ((hr_648.rd lo_733 (Mem.no_le _)).mono (le_734.trans (le_735.trans (le_736.trans (le_737.trans (le_738.trans (le_739.trans (le_740.trans (le_741.trans (le_742.trans (le_743.trans (le_744.trans (le_745.trans (le_746.trans (le_747.trans (le_748.trans (le_749.trans le_750))))))))))))))))) ((hr_652.rd lo_734 (Mem.no_le _)).mono (le_735.trans (le_736.trans (le_737.trans (le_738.trans (le_739.trans (le_740.trans (le_741.trans (le_742.trans (le_743.trans (le_744.trans (le_745.trans (le_746.trans (le_747.trans (le_748.trans (le_749.trans le_750)))))))))))))))) ((hr_656.rd lo_735 (Mem.no_le _)).mono (le_736.trans (le_737.trans (le_738.trans (le_739.trans (le_740.trans (le_741.trans (le_742.trans (le_743.trans (le_744.trans (le_745.trans (le_746.trans (le_747.trans (le_748.trans (le_749.trans le_750))))))))))))))) ((hr_660.rd lo_736 (Mem.no_le _)).mono (le_737.trans (le_738.trans (le_739.trans (le_740.trans (le_741.trans (le_742.trans (le_743.trans (le_744.trans (le_745.trans (le_746.trans (le_747.trans (le_748.trans (le_749.trans le_750)))))))))))))) ((hr_664.rd lo_737 (Mem.no_le _)).mono (le_738.trans (le_739.trans (le_740.trans (le_741.trans (le_742.trans (le_743.trans (le_744.trans (le_745.trans (le_746.trans (le_747.trans (le_748.trans (le_749.trans le_750))))))))))))) ((hr_668.rd lo_738 (Mem.no_le _)).mono (le_739.trans (le_740.trans (le_741.trans (le_742.trans (le_743.trans (le_744.trans (le_745.trans (le_746.trans (le_747.trans (le_748.trans (le_749.trans le_750)))))))))))))).append ((Reps.one (d := k_api_Msg) (x := t_671) (k_api_Msg.mk' ((hr_676.rd lo_739 (Mem.no_le _)).mono (le_740.trans (le_741.trans (le_742.trans (le_743.trans (le_744.trans (le_745.trans (le_746.trans (le_747.trans (le_748.trans (le_749.trans le_750))))))))))) ((hr_680.rd lo_740 (Mem.no_le _)).mono (le_741.trans (le_742.trans (le_743.trans (le_744.trans (le_745.trans (le_746.trans (le_747.trans (le_748.trans (le_749.trans le_750)))))))))) ((hr_684.rd lo_741 (Mem.no_le _)).mono (le_742.trans (le_743.trans (le_744.trans (le_745.trans (le_746.trans (le_747.trans (le_748.trans (le_749.trans le_750))))))))) ((hr_688.rd lo_742 (Mem.no_le _)).mono (le_743.trans (le_744.trans (le_745.trans (le_746.trans (le_747.trans (le_748.trans (le_749.trans le_750)))))))) ((hr_692.rd lo_743 (Mem.no_le _)).mono (le_744.trans (le_745.trans (le_746.trans (le_747.trans (le_748.trans (le_749.trans le_750))))))) ((hr_696.rd lo_744 (Mem.no_le _)).mono (le_745.trans (le_746.trans (le_747.trans (le_748.trans (le_749.trans le_750)))))))).append ((Reps.one (d := k_api_Msg) (x := t_699) (k_api_Msg.mk' ((hr_704.rd lo_745 (Mem.no_le _)).mono (le_746.trans (le_747.trans (le_748.trans (le_749.trans le_750))))) ((hr_708.rd lo_746 (Mem.no_le _)).mono (le_747.trans (le_748.trans (le_749.trans le_750)))) ((hr_712.rd lo_747 (Mem.no_le _)).mono (le_748.trans (le_749.trans le_750))) ((hr_716.rd lo_748 (Mem.no_le _)).mono (le_749.trans le_750)) ((hr_720.rd lo_749 (Mem.no_le _)).mono le_750) (hr_724.rd lo_750 (Mem.no_le _)))).append (Reps.nil k_api_Msg _)))))
  refine s_buildSlice hm rfl Try.underlying31 ti29 rfl rfl rfl (.cons rfl (.cons rfl (.cons rfl (.cons rfl .nil)))) rfl rfl rfl hS hq_755 rfl ?_
  intro w_751 v_752 M_753 hS' ho_754
  clear hm a; intro a hm
  replace hS : Sep w0 w_751 [N_750, M_71, M_179, M_287, M_395, M_503, M_611, Mem.no, Mem.no, Mem.no, Mem.no, Mem.no, Mem.no, Mem.no, Mem.no, Mem.no, Mem.no, Mem.no, Mem.no, Mem.no, Mem.no, Mem.no, Mem.no, Mem.no, Mem.no, Mem.no, Mem.no, Mem.no, Mem.no, Mem.no, Mem.no, M_753] Z := hS'
  clear hS' hq_755
  replace hS : Sep w0 w_751 [N_750, M_71, M_179, M_287, M_395, M_503, M_611, M_753] Z := hS.sel [0, 1, 2, 3, 4, 5, 6, 31] (by decide)
  refine s_build hm rfl ti32 pl32 rfl (.cons ho_754.cells (.cons rfl (.cons rfl (.cons rfl (.cons rfl .nil))))) (cs := [v_752, .int .i64 22, .int .i64 4, .int .i64 4, .bool true]) rfl ?_
  clear hm a; intro a hm
  refine s_move hm rfl rfl ?_
  clear hm a; intro a hm
  obtain ⟨t_757, et_757, H⟩ := Option.bind_eq_some_iff.1 H
  refine s_callv hm rfl rfl Try.call15 rfl (hocketlaw14_ViewForms_1.calls 2 8 3 true t_757 w0 _ _ _ (Mem.le.refl _) (hS.enter [] (by decide))  et_757) ?_
  rintro _ w_758 ⟨v_761, v_765, v_769, v_773, v_777, v_781, N_759, M_763, M_767, M_771, M_775, M_779, M_783, rfl, hS', hr_762, hr_766, hr_770, hr_774, hr_778, hr_782⟩
  clear hm a; intro a hm
  obtain ⟨N_760, hS'', le_760, ln_760⟩ := hS.call [] (by decide) rfl (l' := []) (ow := [M_763, M_767, M_771, M_775, M_779, M_783]) rfl hS'
  replace hS : Sep w0 w_758 [N_760, M_71, M_179, M_287, M_395, M_503, M_611, M_753, M_763, M_767, M_771, M_775, M_779, M_783] Z := hS''
  clear hS' hS''
  refine s_move hm rfl rfl ?_
  clear hm a; intro a hm
  obtain ⟨t_785, et_785, H⟩ := Option.bind_eq_some_iff.1 H
  refine s_callv hm rfl rfl Try.call15 rfl (hocketlaw14_ViewForms_1.calls 5 99 9 true t_785 w0 _ _ _ (Mem.le.refl _) (hS.enter [] (by decide))  et_785) ?_
  rintro _ w_786 ⟨v_789, v_793, v_797, v_801, v_805, v_809, N_787, M_791, M_795, M_799, M_803, M_807, M_811, rfl, hS', hr_790, hr_794, hr_798, hr_802, hr_806, hr_810⟩
  clear hm a; intro a hm
  obtain ⟨N_788, hS'', le_788, ln_788⟩ := hS.call [] (by decide) rfl (l' := []) (ow := [M_791, M_795, M_799, M_803, M_807, M_811]) rfl hS'
  replace hS : Sep w0 w_786 [N_788, M_71, M_179, M_287, M_395, M_503, M_611, M_753, M_763, M_767, M_771, M_775, M_779, M_783, M_791, M_795, M_799, M_803, M_807, M_811] Z := hS''
  clear hS' hS''
  refine s_move hm rfl rfl ?_
  clear hm a; intro a hm
  obtain ⟨t_813, et_813, H⟩ := Option.bind_eq_some_iff.1 H
  refine s_callv hm rfl rfl Try.call15 rfl (hocketlaw14_ViewForms_1.calls 1 8 1 true t_813 w0 _ _ _ (Mem.le.refl _) (hS.enter [] (by decide))  et_813) ?_
  rintro _ w_814 ⟨v_817, v_821, v_825, v_829, v_833, v_837, N_815, M_819, M_823, M_827, M_831, M_835, M_839, rfl, hS', hr_818, hr_822, hr_826, hr_830, hr_834, hr_838⟩
  clear hm a; intro a hm
  obtain ⟨N_816, hS'', le_816, ln_816⟩ := hS.call [] (by decide) rfl (l' := []) (ow := [M_819, M_823, M_827, M_831, M_835, M_839]) rfl hS'
  replace hS : Sep w0 w_814 [N_816, M_71, M_179, M_287, M_395, M_503, M_611, M_753, M_763, M_767, M_771, M_775, M_779, M_783, M_791, M_795, M_799, M_803, M_807, M_811, M_819, M_823, M_827, M_831, M_835, M_839] Z := hS''
  clear hS' hS''
  refine s_move hm rfl rfl ?_
  clear hm a; intro a hm
  obtain ⟨t_841, et_841, H⟩ := Option.bind_eq_some_iff.1 H
  refine s_callv hm rfl rfl Try.call15 rfl (hocketlaw14_ViewForms_1.calls 4 8 4 true t_841 w0 _ _ _ (Mem.le.refl _) (hS.enter [] (by decide))  et_841) ?_
  rintro _ w_842 ⟨v_845, v_849, v_853, v_857, v_861, v_865, N_843, M_847, M_851, M_855, M_859, M_863, M_867, rfl, hS', hr_846, hr_850, hr_854, hr_858, hr_862, hr_866⟩
  clear hm a; intro a hm
  obtain ⟨N_844, hS'', le_844, ln_844⟩ := hS.call [] (by decide) rfl (l' := []) (ow := [M_847, M_851, M_855, M_859, M_863, M_867]) rfl hS'
  replace hS : Sep w0 w_842 [N_844, M_71, M_179, M_287, M_395, M_503, M_611, M_753, M_763, M_767, M_771, M_775, M_779, M_783, M_791, M_795, M_799, M_803, M_807, M_811, M_819, M_823, M_827, M_831, M_835, M_839, M_847, M_851, M_855, M_859, M_863, M_867] Z := hS''
  clear hS' hS''
  obtain ⟨N_869, hS', le_869, lo_869⟩ := hS.freeze 7 rfl
  replace hS : Sep w0 w_842 [N_869, M_71, M_179, M_287, M_395, M_503, M_611, M_753, Mem.no, M_767, M_771, M_775, M_779, M_783, M_791, M_795, M_799, M_803, M_807, M_811, M_819, M_823, M_827, M_831, M_835, M_839, M_847, M_851, M_855, M_859, M_863, M_867] Z := hS'
  clear hS'
  obtain ⟨N_870, hS', le_870, lo_870⟩ := hS.freeze 8 rfl
  replace hS : Sep w0 w_842 [N_870, M_71, M_179, M_287, M_395, M_503, M_611, M_753, Mem.no, Mem.no, M_771, M_775, M_779, M_783, M_791, M_795, M_799, M_803, M_807, M_811, M_819, M_823, M_827, M_831, M_835, M_839, M_847, M_851, M_855, M_859, M_863, M_867] Z := hS'
  clear hS'
  obtain ⟨N_871, hS', le_871, lo_871⟩ := hS.freeze 9 rfl
  replace hS : Sep w0 w_842 [N_871, M_71, M_179, M_287, M_395, M_503, M_611, M_753, Mem.no, Mem.no, Mem.no, M_775, M_779, M_783, M_791, M_795, M_799, M_803, M_807, M_811, M_819, M_823, M_827, M_831, M_835, M_839, M_847, M_851, M_855, M_859, M_863, M_867] Z := hS'
  clear hS'
  obtain ⟨N_872, hS', le_872, lo_872⟩ := hS.freeze 10 rfl
  replace hS : Sep w0 w_842 [N_872, M_71, M_179, M_287, M_395, M_503, M_611, M_753, Mem.no, Mem.no, Mem.no, Mem.no, M_779, M_783, M_791, M_795, M_799, M_803, M_807, M_811, M_819, M_823, M_827, M_831, M_835, M_839, M_847, M_851, M_855, M_859, M_863, M_867] Z := hS'
  clear hS'
  obtain ⟨N_873, hS', le_873, lo_873⟩ := hS.freeze 11 rfl
  replace hS : Sep w0 w_842 [N_873, M_71, M_179, M_287, M_395, M_503, M_611, M_753, Mem.no, Mem.no, Mem.no, Mem.no, Mem.no, M_783, M_791, M_795, M_799, M_803, M_807, M_811, M_819, M_823, M_827, M_831, M_835, M_839, M_847, M_851, M_855, M_859, M_863, M_867] Z := hS'
  clear hS'
  obtain ⟨N_874, hS', le_874, lo_874⟩ := hS.freeze 12 rfl
  replace hS : Sep w0 w_842 [N_874, M_71, M_179, M_287, M_395, M_503, M_611, M_753, Mem.no, Mem.no, Mem.no, Mem.no, Mem.no, Mem.no, M_791, M_795, M_799, M_803, M_807, M_811, M_819, M_823, M_827, M_831, M_835, M_839, M_847, M_851, M_855, M_859, M_863, M_867] Z := hS'
  clear hS'
  obtain ⟨N_875, hS', le_875, lo_875⟩ := hS.freeze 13 rfl
  replace hS : Sep w0 w_842 [N_875, M_71, M_179, M_287, M_395, M_503, M_611, M_753, Mem.no, Mem.no, Mem.no, Mem.no, Mem.no, Mem.no, Mem.no, M_795, M_799, M_803, M_807, M_811, M_819, M_823, M_827, M_831, M_835, M_839, M_847, M_851, M_855, M_859, M_863, M_867] Z := hS'
  clear hS'
  obtain ⟨N_876, hS', le_876, lo_876⟩ := hS.freeze 14 rfl
  replace hS : Sep w0 w_842 [N_876, M_71, M_179, M_287, M_395, M_503, M_611, M_753, Mem.no, Mem.no, Mem.no, Mem.no, Mem.no, Mem.no, Mem.no, Mem.no, M_799, M_803, M_807, M_811, M_819, M_823, M_827, M_831, M_835, M_839, M_847, M_851, M_855, M_859, M_863, M_867] Z := hS'
  clear hS'
  obtain ⟨N_877, hS', le_877, lo_877⟩ := hS.freeze 15 rfl
  replace hS : Sep w0 w_842 [N_877, M_71, M_179, M_287, M_395, M_503, M_611, M_753, Mem.no, Mem.no, Mem.no, Mem.no, Mem.no, Mem.no, Mem.no, Mem.no, Mem.no, M_803, M_807, M_811, M_819, M_823, M_827, M_831, M_835, M_839, M_847, M_851, M_855, M_859, M_863, M_867] Z := hS'
  clear hS'
  obtain ⟨N_878, hS', le_878, lo_878⟩ := hS.freeze 16 rfl
  replace hS : Sep w0 w_842 [N_878, M_71, M_179, M_287, M_395, M_503, M_611, M_753, Mem.no, Mem.no, Mem.no, Mem.no, Mem.no, Mem.no, Mem.no, Mem.no, Mem.no, Mem.no, M_807, M_811, M_819, M_823, M_827, M_831, M_835, M_839, M_847, M_851, M_855, M_859, M_863, M_867] Z := hS'
  clear hS'
  obtain ⟨N_879, hS', le_879, lo_879⟩ := hS.freeze 17 rfl
  replace hS : Sep w0 w_842 [N_879, M_71, M_179, M_287, M_395, M_503, M_611, M_753, Mem.no, Mem.no, Mem.no, Mem.no, Mem.no, Mem.no, Mem.no, Mem.no, Mem.no, Mem.no, Mem.no, M_811, M_819, M_823, M_827, M_831, M_835, M_839, M_847, M_851, M_855, M_859, M_863, M_867] Z := hS'
  clear hS'
  obtain ⟨N_880, hS', le_880, lo_880⟩ := hS.freeze 18 rfl
  replace hS : Sep w0 w_842 [N_880, M_71, M_179, M_287, M_395, M_503, M_611, M_753, Mem.no, Mem.no, Mem.no, Mem.no, Mem.no, Mem.no, Mem.no, Mem.no, Mem.no, Mem.no, Mem.no, Mem.no, M_819, M_823, M_827, M_831, M_835, M_839, M_847, M_851, M_855, M_859, M_863, M_867] Z := hS'
  clear hS'
  obtain ⟨N_881, hS', le_881, lo_881⟩ := hS.freeze 19 rfl
  replace hS : Sep w0 w_842 [N_881, M_71, M_179, M_287, M_395, M_503, M_611, M_753, Mem.no, Mem.no, Mem.no, Mem.no, Mem.no, Mem.no, Mem.no, Mem.no, Mem.no, Mem.no, Mem.no, Mem.no, Mem.no, M_823, M_827, M_831, M_835, M_839, M_847, M_851, M_855, M_859, M_863, M_867] Z := hS'
  clear hS'
  obtain ⟨N_882, hS', le_882, lo_882⟩ := hS.freeze 20 rfl
  replace hS : Sep w0 w_842 [N_882, M_71, M_179, M_287, M_395, M_503, M_611, M_753, Mem.no, Mem.no, Mem.no, Mem.no, Mem.no, Mem.no, Mem.no, Mem.no, Mem.no, Mem.no, Mem.no, Mem.no, Mem.no, Mem.no, M_827, M_831, M_835, M_839, M_847, M_851, M_855, M_859, M_863, M_867] Z := hS'
  clear hS'
  obtain ⟨N_883, hS', le_883, lo_883⟩ := hS.freeze 21 rfl
  replace hS : Sep w0 w_842 [N_883, M_71, M_179, M_287, M_395, M_503, M_611, M_753, Mem.no, Mem.no, Mem.no, Mem.no, Mem.no, Mem.no, Mem.no, Mem.no, Mem.no, Mem.no, Mem.no, Mem.no, Mem.no, Mem.no, Mem.no, M_831, M_835, M_839, M_847, M_851, M_855, M_859, M_863, M_867] Z := hS'
  clear hS'
  obtain ⟨N_884, hS', le_884, lo_884⟩ := hS.freeze 22 rfl
  replace hS : Sep w0 w_842 [N_884, M_71, M_179, M_287, M_395, M_503, M_611, M_753, Mem.no, Mem.no, Mem.no, Mem.no, Mem.no, Mem.no, Mem.no, Mem.no, Mem.no, Mem.no, Mem.no, Mem.no, Mem.no, Mem.no, Mem.no, Mem.no, M_835, M_839, M_847, M_851, M_855, M_859, M_863, M_867] Z := hS'
  clear hS'
  obtain ⟨N_885, hS', le_885, lo_885⟩ := hS.freeze 23 rfl
  replace hS : Sep w0 w_842 [N_885, M_71, M_179, M_287, M_395, M_503, M_611, M_753, Mem.no, Mem.no, Mem.no, Mem.no, Mem.no, Mem.no, Mem.no, Mem.no, Mem.no, Mem.no, Mem.no, Mem.no, Mem.no, Mem.no, Mem.no, Mem.no, Mem.no, M_839, M_847, M_851, M_855, M_859, M_863, M_867] Z := hS'
  clear hS'
  obtain ⟨N_886, hS', le_886, lo_886⟩ := hS.freeze 24 rfl
  replace hS : Sep w0 w_842 [N_886, M_71, M_179, M_287, M_395, M_503, M_611, M_753, Mem.no, Mem.no, Mem.no, Mem.no, Mem.no, Mem.no, Mem.no, Mem.no, Mem.no, Mem.no, Mem.no, Mem.no, Mem.no, Mem.no, Mem.no, Mem.no, Mem.no, Mem.no, M_847, M_851, M_855, M_859, M_863, M_867] Z := hS'
  clear hS'
  obtain ⟨N_887, hS', le_887, lo_887⟩ := hS.freeze 25 rfl
  replace hS : Sep w0 w_842 [N_887, M_71, M_179, M_287, M_395, M_503, M_611, M_753, Mem.no, Mem.no, Mem.no, Mem.no, Mem.no, Mem.no, Mem.no, Mem.no, Mem.no, Mem.no, Mem.no, Mem.no, Mem.no, Mem.no, Mem.no, Mem.no, Mem.no, Mem.no, Mem.no, M_851, M_855, M_859, M_863, M_867] Z := hS'
  clear hS'
  obtain ⟨N_888, hS', le_888, lo_888⟩ := hS.freeze 26 rfl
  replace hS : Sep w0 w_842 [N_888, M_71, M_179, M_287, M_395, M_503, M_611, M_753, Mem.no, Mem.no, Mem.no, Mem.no, Mem.no, Mem.no, Mem.no, Mem.no, Mem.no, Mem.no, Mem.no, Mem.no, Mem.no, Mem.no, Mem.no, Mem.no, Mem.no, Mem.no, Mem.no, Mem.no, M_855, M_859, M_863, M_867] Z := hS'
  clear hS'
  obtain ⟨N_889, hS', le_889, lo_889⟩ := hS.freeze 27 rfl
  replace hS : Sep w0 w_842 [N_889, M_71, M_179, M_287, M_395, M_503, M_611, M_753, Mem.no, Mem.no, Mem.no, Mem.no, Mem.no, Mem.no, Mem.no, Mem.no, Mem.no, Mem.no, Mem.no, Mem.no, Mem.no, Mem.no, Mem.no, Mem.no, Mem.no, Mem.no, Mem.no, Mem.no, Mem.no, M_859, M_863, M_867] Z := hS'
  clear hS'
  obtain ⟨N_890, hS', le_890, lo_890⟩ := hS.freeze 28 rfl
  replace hS : Sep w0 w_842 [N_890, M_71, M_179, M_287, M_395, M_503, M_611, M_753, Mem.no, Mem.no, Mem.no, Mem.no, Mem.no, Mem.no, Mem.no, Mem.no, Mem.no, Mem.no, Mem.no, Mem.no, Mem.no, Mem.no, Mem.no, Mem.no, Mem.no, Mem.no, Mem.no, Mem.no, Mem.no, Mem.no, M_863, M_867] Z := hS'
  clear hS'
  obtain ⟨N_891, hS', le_891, lo_891⟩ := hS.freeze 29 rfl
  replace hS : Sep w0 w_842 [N_891, M_71, M_179, M_287, M_395, M_503, M_611, M_753, Mem.no, Mem.no, Mem.no, Mem.no, Mem.no, Mem.no, Mem.no, Mem.no, Mem.no, Mem.no, Mem.no, Mem.no, Mem.no, Mem.no, Mem.no, Mem.no, Mem.no, Mem.no, Mem.no, Mem.no, Mem.no, Mem.no, Mem.no, M_867] Z := hS'
  clear hS'
  obtain ⟨N_892, hS', le_892, lo_892⟩ := hS.freeze 30 rfl
  replace hS : Sep w0 w_842 [N_892, M_71, M_179, M_287, M_395, M_503, M_611, M_753, Mem.no, Mem.no, Mem.no, Mem.no, Mem.no, Mem.no, Mem.no, Mem.no, Mem.no, Mem.no, Mem.no, Mem.no, Mem.no, Mem.no, Mem.no, Mem.no, Mem.no, Mem.no, Mem.no, Mem.no, Mem.no, Mem.no, Mem.no, Mem.no] Z := hS'
  clear hS'
  have hq_897 : Reps k_api_Msg N_892 ([t_757, t_785, t_813, t_841] : List api_Msg) _ := ((Reps.one (d := k_api_Msg) (x := t_757) (k_api_Msg.mk' ((hr_762.rd lo_869 (Mem.no_le _)).mono (le_870.trans (le_871.trans (le_872.trans (le_873.trans (le_874.trans (le_875.trans (le_876.trans (le_877.trans (le_878.trans (le_879.trans (le_880.trans (le_881.trans (le_882.trans (le_883.trans (le_884.trans (le_885.trans (le_886.trans (le_887.trans (le_888.trans (le_889.trans (le_890.trans (le_891.trans le_892))))))))))))))))))))))) ((hr_766.rd lo_870 (Mem.no_le _)).mono (le_871.trans (le_872.trans (le_873.trans (le_874.trans (le_875.trans (le_876.trans (le_877.trans (le_878.trans (le_879.trans (le_880.trans (le_881.trans (le_882.trans (le_883.trans (le_884.trans (le_885.trans (le_886.trans (le_887.trans (le_888.trans (le_889.trans (le_890.trans (le_891.trans le_892)))))))))))))))))))))) ((hr_770.rd lo_871 (Mem.no_le _)).mono (le_872.trans (le_873.trans (le_874.trans (le_875.trans (le_876.trans (le_877.trans (le_878.trans (le_879.trans (le_880.trans (le_881.trans (le_882.trans (le_883.trans (le_884.trans (le_885.trans (le_886.trans (le_887.trans (le_888.trans (le_889.trans (le_890.trans (le_891.trans le_892))))))))))))))))))))) ((hr_774.rd lo_872 (Mem.no_le _)).mono (le_873.trans (le_874.trans (le_875.trans (le_876.trans (le_877.trans (le_878.trans (le_879.trans (le_880.trans (le_881.trans (le_882.trans (le_883.trans (le_884.trans (le_885.trans (le_886.trans (le_887.trans (le_888.trans (le_889.trans (le_890.trans (le_891.trans le_892)))))))))))))))))))) ((hr_778.rd lo_873 (Mem.no_le _)).mono (le_874.trans (le_875.trans (le_876.trans (le_877.trans (le_878.trans (le_879.trans (le_880.trans (le_881.trans (le_882.trans (le_883.trans (le_884.trans (le_885.trans (le_886.trans (le_887.trans (le_888.trans (le_889.trans (le_890.trans (le_891.trans le_892))))))))))))))))))) ((hr_782.rd lo_874 (Mem.no_le _)).mono (le_875.trans (le_876.trans (le_877.trans (le_878.trans (le_879.trans (le_880.trans (le_881.trans (le_882.trans (le_883.trans (le_884.trans (le_885.trans (le_886.trans (le_887.trans (le_888.trans (le_889.trans (le_890.trans (le_891.trans le_892)))))))))))))))))))).append ((Reps.one (d := k_api_Msg) (x := t_785) (k_api_Msg.mk' ((hr_790.rd lo_875 (Mem.no_le _)).mono (le_876.trans (le_877.trans (le_878.trans (le_879.trans (le_880.trans (le_881.trans (le_882.trans (le_883.trans (le_884.trans (le_885.trans (le_886.trans (le_887.trans (le_888.trans (le_889.trans (le_890.trans (le_891.trans le_892))))))))))))))))) ((hr_794.rd lo_876 (Mem.no_le _)).mono (le_877.trans (le_878.trans (le_879.trans (le_880.trans (le_881.trans (le_882.trans (le_883.trans (le_884.trans (le_885.trans (le_886.trans (le_887.trans (le_888.trans (le_889.trans (le_890.trans (le_891.trans le_892)))))))))))))))) ((hr_798.rd lo_877 (Mem.no_le _)).mono (le_878.trans (le_879.trans (le_880.trans (le_881.trans (le_882.trans (le_883.trans (le_884.trans (le_885.trans (le_886.trans (le_887.trans (le_888.trans (le_889.trans (le_890.trans (le_891.trans le_892))))))))))))))) ((hr_802.rd lo_878 (Mem.no_le _)).mono (le_879.trans (le_880.trans (le_881.trans (le_882.trans (le_883.trans (le_884.trans (le_885.trans (le_886.trans (le_887.trans (le_888.trans (le_889.trans (le_890.trans (le_891.trans le_892)))))))))))))) ((hr_806.rd lo_879 (Mem.no_le _)).mono (le_880.trans (le_881.trans (le_882.trans (le_883.trans (le_884.trans (le_885.trans (le_886.trans (le_887.trans (le_888.trans (le_889.trans (le_890.trans (le_891.trans le_892))))))))))))) ((hr_810.rd lo_880 (Mem.no_le _)).mono (le_881.trans (le_882.trans (le_883.trans (le_884.trans (le_885.trans (le_886.trans (le_887.trans (le_888.trans (le_889.trans (le_890.trans (le_891.trans le_892)))))))))))))).append ((Reps.one (d := k_api_Msg) (x := t_813) (k_api_Msg.mk' ((hr_818.rd lo_881 (Mem.no_le _)).mono (le_882.trans (le_883.trans (le_884.trans (le_885.trans (le_886.trans (le_887.trans (le_888.trans (le_889.trans (le_890.trans (le_891.trans le_892))))))))))) ((hr_822.rd lo_882 (Mem.no_le _)).mono (le_883.trans (le_884.trans (le_885.trans (le_886.trans (le_887.trans (le_888.trans (le_889.trans (le_890.trans (le_891.trans le_892)))))))))) ((hr_826.rd lo_883 (Mem.no_le _)).mono (le_884.trans (le_885.trans (le_886.trans (le_887.trans (le_888.trans (le_889.trans (le_890.trans (le_891.trans le_892))))))))) ((hr_830.rd lo_884 (Mem.no_le _)).mono (le_885.trans (le_886.trans (le_887.trans (le_888.trans (le_889.trans (le_890.trans (le_891.trans le_892)))))))) ((hr_834.rd lo_885 (Mem.no_le _)).mono (le_886.trans (le_887.trans (le_888.trans (le_889.trans (le_890.trans (le_891.trans le_892))))))) ((hr_838.rd lo_886 (Mem.no_le _)).mono (le_887.trans (le_888.trans (le_889.trans (le_890.trans (le_891.trans le_892)))))))).append ((Reps.one (d := k_api_Msg) (x := t_841) (k_api_Msg.mk' ((hr_846.rd lo_887 (Mem.no_le _)).mono (le_888.trans (le_889.trans (le_890.trans (le_891.trans le_892))))) ((hr_850.rd lo_888 (Mem.no_le _)).mono (le_889.trans (le_890.trans (le_891.trans le_892)))) ((hr_854.rd lo_889 (Mem.no_le _)).mono (le_890.trans (le_891.trans le_892))) ((hr_858.rd lo_890 (Mem.no_le _)).mono (le_891.trans le_892)) ((hr_862.rd lo_891 (Mem.no_le _)).mono le_892) (hr_866.rd lo_892 (Mem.no_le _)))).append (Reps.nil k_api_Msg _)))))
  refine s_buildSlice hm rfl Try.underlying31 ti29 rfl rfl rfl (.cons rfl (.cons rfl (.cons rfl (.cons rfl .nil)))) rfl rfl rfl hS hq_897 rfl ?_
  intro w_893 v_894 M_895 hS' ho_896
  clear hm a; intro a hm
  replace hS : Sep w0 w_893 [N_892, M_71, M_179, M_287, M_395, M_503, M_611, M_753, Mem.no, Mem.no, Mem.no, Mem.no, Mem.no, Mem.no, Mem.no, Mem.no, Mem.no, Mem.no, Mem.no, Mem.no, Mem.no, Mem.no, Mem.no, Mem.no, Mem.no, Mem.no, Mem.no, Mem.no, Mem.no, Mem.no, Mem.no, Mem.no, M_895] Z := hS'
  clear hS' hq_897
  replace hS : Sep w0 w_893 [N_892, M_71, M_179, M_287, M_395, M_503, M_611, M_753, M_895] Z := hS.sel [0, 1, 2, 3, 4, 5, 6, 7, 32] (by decide)
  refine s_build hm rfl ti32 pl32 rfl (.cons ho_896.cells (.cons rfl (.cons rfl (.cons rfl (.cons rfl .nil))))) (cs := [v_894, .int .i64 22, .int .i64 4, .int .i64 4, .bool true]) rfl ?_
  clear hm a; intro a hm
  refine s_move hm rfl rfl ?_
  clear hm a; intro a hm
  obtain ⟨t_899, et_899, H⟩ := Option.bind_eq_some_iff.1 H
  refine s_callv hm rfl rfl Try.call15 rfl (hocketlaw14_ViewForms_1.calls 0 8 3 true t_899 w0 _ _ _ (Mem.le.refl _) (hS.enter [] (by decide))  et_899) ?_
  rintro _ w_900 ⟨v_903, v_907, v_911, v_915, v_919, v_923, N_901, M_905, M_909, M_913, M_917, M_921, M_925, rfl, hS', hr_904, hr_908, hr_912, hr_916, hr_920, hr_924⟩
  clear hm a; intro a hm
  obtain ⟨N_902, hS'', le_902, ln_902⟩ := hS.call [] (by decide) rfl (l' := []) (ow := [M_905, M_909, M_913, M_917, M_921, M_925]) rfl hS'
  replace hS : Sep w0 w_900 [N_902, M_71, M_179, M_287, M_395, M_503, M_611, M_753, M_895, M_905, M_909, M_913, M_917, M_921, M_925] Z := hS''
  clear hS' hS''
  refine s_move hm rfl rfl ?_
  clear hm a; intro a hm
  obtain ⟨t_927, et_927, H⟩ := Option.bind_eq_some_iff.1 H
  refine s_callv hm rfl rfl Try.call15 rfl (hocketlaw14_ViewForms_1.calls 1 8 3 true t_927 w0 _ _ _ (Mem.le.refl _) (hS.enter [] (by decide))  et_927) ?_
  rintro _ w_928 ⟨v_931, v_935, v_939, v_943, v_947, v_951, N_929, M_933, M_937, M_941, M_945, M_949, M_953, rfl, hS', hr_932, hr_936, hr_940, hr_944, hr_948, hr_952⟩
  clear hm a; intro a hm
  obtain ⟨N_930, hS'', le_930, ln_930⟩ := hS.call [] (by decide) rfl (l' := []) (ow := [M_933, M_937, M_941, M_945, M_949, M_953]) rfl hS'
  replace hS : Sep w0 w_928 [N_930, M_71, M_179, M_287, M_395, M_503, M_611, M_753, M_895, M_905, M_909, M_913, M_917, M_921, M_925, M_933, M_937, M_941, M_945, M_949, M_953] Z := hS''
  clear hS' hS''
  refine s_move hm rfl rfl ?_
  clear hm a; intro a hm
  obtain ⟨t_955, et_955, H⟩ := Option.bind_eq_some_iff.1 H
  refine s_callv hm rfl rfl Try.call15 rfl (hocketlaw14_ViewForms_1.calls 2 8 3 true t_955 w0 _ _ _ (Mem.le.refl _) (hS.enter [] (by decide))  et_955) ?_
  rintro _ w_956 ⟨v_959, v_963, v_967, v_971, v_975, v_979, N_957, M_961, M_965, M_969, M_973, M_977, M_981, rfl, hS', hr_960, hr_964, hr_968, hr_972, hr_976, hr_980⟩
  clear hm a; intro a hm
  obtain ⟨N_958, hS'', le_958, ln_958⟩ := hS.call [] (by decide) rfl (l' := []) (ow := [M_961, M_965, M_969, M_973, M_977, M_981]) rfl hS'
  replace hS : Sep w0 w_956 [N_958, M_71, M_179, M_287, M_395, M_503, M_611, M_753, M_895, M_905, M_909, M_913, M_917, M_921, M_925, M_933, M_937, M_941, M_945, M_949, M_953, M_961, M_965, M_969, M_973, M_977, M_981] Z := hS''
  clear hS' hS''
  refine s_move hm rfl rfl ?_
  clear hm a; intro a hm
  obtain ⟨t_983, et_983, H⟩ := Option.bind_eq_some_iff.1 H
  refine s_callv hm rfl rfl Try.call15 rfl (hocketlaw14_ViewForms_1.calls 3 8 3 true t_983 w0 _ _ _ (Mem.le.refl _) (hS.enter [] (by decide))  et_983) ?_
  rintro _ w_984 ⟨v_987, v_991, v_995, v_999, v_1003, v_1007, N_985, M_989, M_993, M_997, M_1001, M_1005, M_1009, rfl, hS', hr_988, hr_992, hr_996, hr_1000, hr_1004, hr_1008⟩
  clear hm a; intro a hm
  obtain ⟨N_986, hS'', le_986, ln_986⟩ := hS.call [] (by decide) rfl (l' := []) (ow := [M_989, M_993, M_997, M_1001, M_1005, M_1009]) rfl hS'
  replace hS : Sep w0 w_984 [N_986, M_71, M_179, M_287, M_395, M_503, M_611, M_753, M_895, M_905, M_909, M_913, M_917, M_921, M_925, M_933, M_937, M_941, M_945, M_949, M_953, M_961, M_965, M_969, M_973, M_977, M_981, M_989, M_993, M_997, M_1001, M_1005, M_1009] Z := hS''
  clear hS' hS''
  refine s_move hm rfl rfl ?_
  clear hm a; intro a hm
  obtain ⟨t_1011, et_1011, H⟩ := Option.bind_eq_some_iff.1 H
  refine s_callv hm rfl rfl Try.call15 rfl (hocketlaw14_ViewForms_1.calls 4 8 3 true t_1011 w0 _ _ _ (Mem.le.refl _) (hS.enter [] (by decide))  et_1011) ?_
  rintro _ w_1012 ⟨v_1015, v_1019, v_1023, v_1027, v_1031, v_1035, N_1013, M_1017, M_1021, M_1025, M_1029, M_1033, M_1037, rfl, hS', hr_1016, hr_1020, hr_1024, hr_1028, hr_1032, hr_1036⟩
  clear hm a; intro a hm
  obtain ⟨N_1014, hS'', le_1014, ln_1014⟩ := hS.call [] (by decide) rfl (l' := []) (ow := [M_1017, M_1021, M_1025, M_1029, M_1033, M_1037]) rfl hS'
  replace hS : Sep w0 w_1012 [N_1014, M_71, M_179, M_287, M_395, M_503, M_611, M_753, M_895, M_905, M_909, M_913, M_917, M_921, M_925, M_933, M_937, M_941, M_945, M_949, M_953, M_961, M_965, M_969, M_973, M_977, M_981, M_989, M_993, M_997, M_1001, M_1005, M_1009, M_1017, M_1021, M_1025, M_1029, M_1033, M_1037] Z := hS''
  clear hS' hS''
  obtain ⟨N_1039, hS', le_1039, lo_1039⟩ := hS.freeze 8 rfl
  replace hS : Sep w0 w_1012 [N_1039, M_71, M_179, M_287, M_395, M_503, M_611, M_753, M_895, Mem.no, M_909, M_913, M_917, M_921, M_925, M_933, M_937, M_941, M_945, M_949, M_953, M_961, M_965, M_969, M_973, M_977, M_981, M_989, M_993, M_997, M_1001, M_1005, M_1009, M_1017, M_1021, M_1025, M_1029, M_1033, M_1037] Z := hS'
  clear hS'
  obtain ⟨N_1040, hS', le_1040, lo_1040⟩ := hS.freeze 9 rfl
  replace hS : Sep w0 w_1012 [N_1040, M_71, M_179, M_287, M_395, M_503, M_611, M_753, M_895, Mem.no, Mem.no, M_913, M_917, M_921, M_925, M_933, M_937, M_941, M_945, M_949, M_953, M_961, M_965, M_969, M_973, M_977, M_981, M_989, M_993, M_997, M_1001, M_1005, M_1009, M_1017, M_1021, M_1025, M_1029, M_1033, M_1037] Z := hS'
  clear hS'
  obtain ⟨N_1041, hS', le_1041, lo_1041⟩ := hS.freeze 10 rfl
  replace hS : Sep w0 w_1012 [N_1041, M_71, M_179, M_287, M_395, M_503, M_611, M_753, M_895, Mem.no, Mem.no, Mem.no, M_917, M_921, M_925, M_933, M_937, M_941, M_945, M_949, M_953, M_961, M_965, M_969, M_973, M_977, M_981, M_989, M_993, M_997, M_1001, M_1005, M_1009, M_1017, M_1021, M_1025, M_1029, M_1033, M_1037] Z := hS'
  clear hS'
  obtain ⟨N_1042, hS', le_1042, lo_1042⟩ := hS.freeze 11 rfl
  replace hS : Sep w0 w_1012 [N_1042, M_71, M_179, M_287, M_395, M_503, M_611, M_753, M_895, Mem.no, Mem.no, Mem.no, Mem.no, M_921, M_925, M_933, M_937, M_941, M_945, M_949, M_953, M_961, M_965, M_969, M_973, M_977, M_981, M_989, M_993, M_997, M_1001, M_1005, M_1009, M_1017, M_1021, M_1025, M_1029, M_1033, M_1037] Z := hS'
  clear hS'
  obtain ⟨N_1043, hS', le_1043, lo_1043⟩ := hS.freeze 12 rfl
  replace hS : Sep w0 w_1012 [N_1043, M_71, M_179, M_287, M_395, M_503, M_611, M_753, M_895, Mem.no, Mem.no, Mem.no, Mem.no, Mem.no, M_925, M_933, M_937, M_941, M_945, M_949, M_953, M_961, M_965, M_969, M_973, M_977, M_981, M_989, M_993, M_997, M_1001, M_1005, M_1009, M_1017, M_1021, M_1025, M_1029, M_1033, M_1037] Z := hS'
  clear hS'
  obtain ⟨N_1044, hS', le_1044, lo_1044⟩ := hS.freeze 13 rfl
  replace hS : Sep w0 w_1012 [N_1044, M_71, M_179, M_287, M_395, M_503, M_611, M_753, M_895, Mem.no, Mem.no, Mem.no, Mem.no, Mem.no, Mem.no, M_933, M_937, M_941, M_945, M_949, M_953, M_961, M_965, M_969, M_973, M_977, M_981, M_989, M_993, M_997, M_1001, M_1005, M_1009, M_1017, M_1021, M_1025, M_1029, M_1033, M_1037] Z := hS'
  clear hS'
  obtain ⟨N_1045, hS', le_1045, lo_1045⟩ := hS.freeze 14 rfl
  replace hS : Sep w0 w_1012 [N_1045, M_71, M_179, M_287, M_395, M_503, M_611, M_753, M_895, Mem.no, Mem.no, Mem.no, Mem.no, Mem.no, Mem.no, Mem.no, M_937, M_941, M_945, M_949, M_953, M_961, M_965, M_969, M_973, M_977, M_981, M_989, M_993, M_997, M_1001, M_1005, M_1009, M_1017, M_1021, M_1025, M_1029, M_1033, M_1037] Z := hS'
  clear hS'
  obtain ⟨N_1046, hS', le_1046, lo_1046⟩ := hS.freeze 15 rfl
  replace hS : Sep w0 w_1012 [N_1046, M_71, M_179, M_287, M_395, M_503, M_611, M_753, M_895, Mem.no, Mem.no, Mem.no, Mem.no, Mem.no, Mem.no, Mem.no, Mem.no, M_941, M_945, M_949, M_953, M_961, M_965, M_969, M_973, M_977, M_981, M_989, M_993, M_997, M_1001, M_1005, M_1009, M_1017, M_1021, M_1025, M_1029, M_1033, M_1037] Z := hS'
  clear hS'
  obtain ⟨N_1047, hS', le_1047, lo_1047⟩ := hS.freeze 16 rfl
  replace hS : Sep w0 w_1012 [N_1047, M_71, M_179, M_287, M_395, M_503, M_611, M_753, M_895, Mem.no, Mem.no, Mem.no, Mem.no, Mem.no, Mem.no, Mem.no, Mem.no, Mem.no, M_945, M_949, M_953, M_961, M_965, M_969, M_973, M_977, M_981, M_989, M_993, M_997, M_1001, M_1005, M_1009, M_1017, M_1021, M_1025, M_1029, M_1033, M_1037] Z := hS'
  clear hS'
  obtain ⟨N_1048, hS', le_1048, lo_1048⟩ := hS.freeze 17 rfl
  replace hS : Sep w0 w_1012 [N_1048, M_71, M_179, M_287, M_395, M_503, M_611, M_753, M_895, Mem.no, Mem.no, Mem.no, Mem.no, Mem.no, Mem.no, Mem.no, Mem.no, Mem.no, Mem.no, M_949, M_953, M_961, M_965, M_969, M_973, M_977, M_981, M_989, M_993, M_997, M_1001, M_1005, M_1009, M_1017, M_1021, M_1025, M_1029, M_1033, M_1037] Z := hS'
  clear hS'
  obtain ⟨N_1049, hS', le_1049, lo_1049⟩ := hS.freeze 18 rfl
  replace hS : Sep w0 w_1012 [N_1049, M_71, M_179, M_287, M_395, M_503, M_611, M_753, M_895, Mem.no, Mem.no, Mem.no, Mem.no, Mem.no, Mem.no, Mem.no, Mem.no, Mem.no, Mem.no, Mem.no, M_953, M_961, M_965, M_969, M_973, M_977, M_981, M_989, M_993, M_997, M_1001, M_1005, M_1009, M_1017, M_1021, M_1025, M_1029, M_1033, M_1037] Z := hS'
  clear hS'
  obtain ⟨N_1050, hS', le_1050, lo_1050⟩ := hS.freeze 19 rfl
  replace hS : Sep w0 w_1012 [N_1050, M_71, M_179, M_287, M_395, M_503, M_611, M_753, M_895, Mem.no, Mem.no, Mem.no, Mem.no, Mem.no, Mem.no, Mem.no, Mem.no, Mem.no, Mem.no, Mem.no, Mem.no, M_961, M_965, M_969, M_973, M_977, M_981, M_989, M_993, M_997, M_1001, M_1005, M_1009, M_1017, M_1021, M_1025, M_1029, M_1033, M_1037] Z := hS'
  clear hS'
  obtain ⟨N_1051, hS', le_1051, lo_1051⟩ := hS.freeze 20 rfl
  replace hS : Sep w0 w_1012 [N_1051, M_71, M_179, M_287, M_395, M_503, M_611, M_753, M_895, Mem.no, Mem.no, Mem.no, Mem.no, Mem.no, Mem.no, Mem.no, Mem.no, Mem.no, Mem.no, Mem.no, Mem.no, Mem.no, M_965, M_969, M_973, M_977, M_981, M_989, M_993, M_997, M_1001, M_1005, M_1009, M_1017, M_1021, M_1025, M_1029, M_1033, M_1037] Z := hS'
  clear hS'
  obtain ⟨N_1052, hS', le_1052, lo_1052⟩ := hS.freeze 21 rfl
  replace hS : Sep w0 w_1012 [N_1052, M_71, M_179, M_287, M_395, M_503, M_611, M_753, M_895, Mem.no, Mem.no, Mem.no, Mem.no, Mem.no, Mem.no, Mem.no, Mem.no, Mem.no, Mem.no, Mem.no, Mem.no, Mem.no, Mem.no, M_969, M_973, M_977, M_981, M_989, M_993, M_997, M_1001, M_1005, M_1009, M_1017, M_1021, M_1025, M_1029, M_1033, M_1037] Z := hS'
  clear hS'
  obtain ⟨N_1053, hS', le_1053, lo_1053⟩ := hS.freeze 22 rfl
  replace hS : Sep w0 w_1012 [N_1053, M_71, M_179, M_287, M_395, M_503, M_611, M_753, M_895, Mem.no, Mem.no, Mem.no, Mem.no, Mem.no, Mem.no, Mem.no, Mem.no, Mem.no, Mem.no, Mem.no, Mem.no, Mem.no, Mem.no, Mem.no, M_973, M_977, M_981, M_989, M_993, M_997, M_1001, M_1005, M_1009, M_1017, M_1021, M_1025, M_1029, M_1033, M_1037] Z := hS'
  clear hS'
  obtain ⟨N_1054, hS', le_1054, lo_1054⟩ := hS.freeze 23 rfl
  replace hS : Sep w0 w_1012 [N_1054, M_71, M_179, M_287, M_395, M_503, M_611, M_753, M_895, Mem.no, Mem.no, Mem.no, Mem.no, Mem.no, Mem.no, Mem.no, Mem.no, Mem.no, Mem.no, Mem.no, Mem.no, Mem.no, Mem.no, Mem.no, Mem.no, M_977, M_981, M_989, M_993, M_997, M_1001, M_1005, M_1009, M_1017, M_1021, M_1025, M_1029, M_1033, M_1037] Z := hS'
  clear hS'
  obtain ⟨N_1055, hS', le_1055, lo_1055⟩ := hS.freeze 24 rfl
  replace hS : Sep w0 w_1012 [N_1055, M_71, M_179, M_287, M_395, M_503, M_611, M_753, M_895, Mem.no, Mem.no, Mem.no, Mem.no, Mem.no, Mem.no, Mem.no, Mem.no, Mem.no, Mem.no, Mem.no, Mem.no, Mem.no, Mem.no, Mem.no, Mem.no, Mem.no, M_981, M_989, M_993, M_997, M_1001, M_1005, M_1009, M_1017, M_1021, M_1025, M_1029, M_1033, M_1037] Z := hS'
  clear hS'
  obtain ⟨N_1056, hS', le_1056, lo_1056⟩ := hS.freeze 25 rfl
  replace hS : Sep w0 w_1012 [N_1056, M_71, M_179, M_287, M_395, M_503, M_611, M_753, M_895, Mem.no, Mem.no, Mem.no, Mem.no, Mem.no, Mem.no, Mem.no, Mem.no, Mem.no, Mem.no, Mem.no, Mem.no, Mem.no, Mem.no, Mem.no, Mem.no, Mem.no, Mem.no, M_989, M_993, M_997, M_1001, M_1005, M_1009, M_1017, M_1021, M_1025, M_1029, M_1033, M_1037] Z := hS'
  clear hS'
  obtain ⟨N_1057, hS', le_1057, lo_1057⟩ := hS.freeze 26 rfl
  replace hS : Sep w0 w_1012 [N_1057, M_71, M_179, M_287, M_395, M_503, M_611, M_753, M_895, Mem.no, Mem.no, Mem.no, Mem.no, Mem.no, Mem.no, Mem.no, Mem.no, Mem.no, Mem.no, Mem.no, Mem.no, Mem.no, Mem.no, Mem.no, Mem.no, Mem.no, Mem.no, Mem.no, M_993, M_997, M_1001, M_1005, M_1009, M_1017, M_1021, M_1025, M_1029, M_1033, M_1037] Z := hS'
  clear hS'
  obtain ⟨N_1058, hS', le_1058, lo_1058⟩ := hS.freeze 27 rfl
  replace hS : Sep w0 w_1012 [N_1058, M_71, M_179, M_287, M_395, M_503, M_611, M_753, M_895, Mem.no, Mem.no, Mem.no, Mem.no, Mem.no, Mem.no, Mem.no, Mem.no, Mem.no, Mem.no, Mem.no, Mem.no, Mem.no, Mem.no, Mem.no, Mem.no, Mem.no, Mem.no, Mem.no, Mem.no, M_997, M_1001, M_1005, M_1009, M_1017, M_1021, M_1025, M_1029, M_1033, M_1037] Z := hS'
  clear hS'
  obtain ⟨N_1059, hS', le_1059, lo_1059⟩ := hS.freeze 28 rfl
  replace hS : Sep w0 w_1012 [N_1059, M_71, M_179, M_287, M_395, M_503, M_611, M_753, M_895, Mem.no, Mem.no, Mem.no, Mem.no, Mem.no, Mem.no, Mem.no, Mem.no, Mem.no, Mem.no, Mem.no, Mem.no, Mem.no, Mem.no, Mem.no, Mem.no, Mem.no, Mem.no, Mem.no, Mem.no, Mem.no, M_1001, M_1005, M_1009, M_1017, M_1021, M_1025, M_1029, M_1033, M_1037] Z := hS'
  clear hS'
  obtain ⟨N_1060, hS', le_1060, lo_1060⟩ := hS.freeze 29 rfl
  replace hS : Sep w0 w_1012 [N_1060, M_71, M_179, M_287, M_395, M_503, M_611, M_753, M_895, Mem.no, Mem.no, Mem.no, Mem.no, Mem.no, Mem.no, Mem.no, Mem.no, Mem.no, Mem.no, Mem.no, Mem.no, Mem.no, Mem.no, Mem.no, Mem.no, Mem.no, Mem.no, Mem.no, Mem.no, Mem.no, Mem.no, M_1005, M_1009, M_1017, M_1021, M_1025, M_1029, M_1033, M_1037] Z := hS'
  clear hS'
  obtain ⟨N_1061, hS', le_1061, lo_1061⟩ := hS.freeze 30 rfl
  replace hS : Sep w0 w_1012 [N_1061, M_71, M_179, M_287, M_395, M_503, M_611, M_753, M_895, Mem.no, Mem.no, Mem.no, Mem.no, Mem.no, Mem.no, Mem.no, Mem.no, Mem.no, Mem.no, Mem.no, Mem.no, Mem.no, Mem.no, Mem.no, Mem.no, Mem.no, Mem.no, Mem.no, Mem.no, Mem.no, Mem.no, Mem.no, M_1009, M_1017, M_1021, M_1025, M_1029, M_1033, M_1037] Z := hS'
  clear hS'
  obtain ⟨N_1062, hS', le_1062, lo_1062⟩ := hS.freeze 31 rfl
  replace hS : Sep w0 w_1012 [N_1062, M_71, M_179, M_287, M_395, M_503, M_611, M_753, M_895, Mem.no, Mem.no, Mem.no, Mem.no, Mem.no, Mem.no, Mem.no, Mem.no, Mem.no, Mem.no, Mem.no, Mem.no, Mem.no, Mem.no, Mem.no, Mem.no, Mem.no, Mem.no, Mem.no, Mem.no, Mem.no, Mem.no, Mem.no, Mem.no, M_1017, M_1021, M_1025, M_1029, M_1033, M_1037] Z := hS'
  clear hS'
  obtain ⟨N_1063, hS', le_1063, lo_1063⟩ := hS.freeze 32 rfl
  replace hS : Sep w0 w_1012 [N_1063, M_71, M_179, M_287, M_395, M_503, M_611, M_753, M_895, Mem.no, Mem.no, Mem.no, Mem.no, Mem.no, Mem.no, Mem.no, Mem.no, Mem.no, Mem.no, Mem.no, Mem.no, Mem.no, Mem.no, Mem.no, Mem.no, Mem.no, Mem.no, Mem.no, Mem.no, Mem.no, Mem.no, Mem.no, Mem.no, Mem.no, M_1021, M_1025, M_1029, M_1033, M_1037] Z := hS'
  clear hS'
  obtain ⟨N_1064, hS', le_1064, lo_1064⟩ := hS.freeze 33 rfl
  replace hS : Sep w0 w_1012 [N_1064, M_71, M_179, M_287, M_395, M_503, M_611, M_753, M_895, Mem.no, Mem.no, Mem.no, Mem.no, Mem.no, Mem.no, Mem.no, Mem.no, Mem.no, Mem.no, Mem.no, Mem.no, Mem.no, Mem.no, Mem.no, Mem.no, Mem.no, Mem.no, Mem.no, Mem.no, Mem.no, Mem.no, Mem.no, Mem.no, Mem.no, Mem.no, M_1025, M_1029, M_1033, M_1037] Z := hS'
  clear hS'
  obtain ⟨N_1065, hS', le_1065, lo_1065⟩ := hS.freeze 34 rfl
  replace hS : Sep w0 w_1012 [N_1065, M_71, M_179, M_287, M_395, M_503, M_611, M_753, M_895, Mem.no, Mem.no, Mem.no, Mem.no, Mem.no, Mem.no, Mem.no, Mem.no, Mem.no, Mem.no, Mem.no, Mem.no, Mem.no, Mem.no, Mem.no, Mem.no, Mem.no, Mem.no, Mem.no, Mem.no, Mem.no, Mem.no, Mem.no, Mem.no, Mem.no, Mem.no, Mem.no, M_1029, M_1033, M_1037] Z := hS'
  clear hS'
  obtain ⟨N_1066, hS', le_1066, lo_1066⟩ := hS.freeze 35 rfl
  replace hS : Sep w0 w_1012 [N_1066, M_71, M_179, M_287, M_395, M_503, M_611, M_753, M_895, Mem.no, Mem.no, Mem.no, Mem.no, Mem.no, Mem.no, Mem.no, Mem.no, Mem.no, Mem.no, Mem.no, Mem.no, Mem.no, Mem.no, Mem.no, Mem.no, Mem.no, Mem.no, Mem.no, Mem.no, Mem.no, Mem.no, Mem.no, Mem.no, Mem.no, Mem.no, Mem.no, Mem.no, M_1033, M_1037] Z := hS'
  clear hS'
  obtain ⟨N_1067, hS', le_1067, lo_1067⟩ := hS.freeze 36 rfl
  replace hS : Sep w0 w_1012 [N_1067, M_71, M_179, M_287, M_395, M_503, M_611, M_753, M_895, Mem.no, Mem.no, Mem.no, Mem.no, Mem.no, Mem.no, Mem.no, Mem.no, Mem.no, Mem.no, Mem.no, Mem.no, Mem.no, Mem.no, Mem.no, Mem.no, Mem.no, Mem.no, Mem.no, Mem.no, Mem.no, Mem.no, Mem.no, Mem.no, Mem.no, Mem.no, Mem.no, Mem.no, Mem.no, M_1037] Z := hS'
  clear hS'
  obtain ⟨N_1068, hS', le_1068, lo_1068⟩ := hS.freeze 37 rfl
  replace hS : Sep w0 w_1012 [N_1068, M_71, M_179, M_287, M_395, M_503, M_611, M_753, M_895, Mem.no, Mem.no, Mem.no, Mem.no, Mem.no, Mem.no, Mem.no, Mem.no, Mem.no, Mem.no, Mem.no, Mem.no, Mem.no, Mem.no, Mem.no, Mem.no, Mem.no, Mem.no, Mem.no, Mem.no, Mem.no, Mem.no, Mem.no, Mem.no, Mem.no, Mem.no, Mem.no, Mem.no, Mem.no, Mem.no] Z := hS'
  clear hS'
  have hq_1073 : Reps k_api_Msg N_1068 ([t_899, t_927, t_955, t_983, t_1011] : List api_Msg) _ := ((Reps.one (d := k_api_Msg) (x := t_899) (k_api_Msg.mk' ((hr_904.rd lo_1039 (Mem.no_le _)).mono (le_1040.trans (le_1041.trans (le_1042.trans (le_1043.trans (le_1044.trans (le_1045.trans (le_1046.trans (le_1047.trans (le_1048.trans (le_1049.trans (le_1050.trans (le_1051.trans (le_1052.trans (le_1053.trans (le_1054.trans (le_1055.trans (le_1056.trans (le_1057.trans (le_1058.trans (le_1059.trans (le_1060.trans (le_1061.trans (le_1062.trans (le_1063.trans (le_1064.trans (le_1065.trans (le_1066.trans (le_1067.trans le_1068))))))))))))))))))))))))))))) ((hr_908.rd lo_1040 (Mem.no_le _)).mono (le_1041.trans (le_1042.trans (le_1043.trans (le_1044.trans (le_1045.trans (le_1046.trans (le_1047.trans (le_1048.trans (le_1049.trans (le_1050.trans (le_1051.trans (le_1052.trans (le_1053.trans (le_1054.trans (le_1055.trans (le_1056.trans (le_1057.trans (le_1058.trans (le_1059.trans (le_1060.trans (le_1061.trans (le_1062.trans (le_1063.trans (le_1064.trans (le_1065.trans (le_1066.trans (le_1067.trans le_1068)))))))))))))))))))))))))))) ((hr_912.rd lo_1041 (Mem.no_le _)).mono (le_1042.trans (le_1043.trans (le_1044.trans (le_1045.trans (le_1046.trans (le_1047.trans (le_1048.trans (le_1049.trans (le_1050.trans (le_1051.trans (le_1052.trans (le_1053.trans (le_1054.trans (le_1055.trans (le_1056.trans (le_1057.trans (le_1058.trans (le_1059.trans (le_1060.trans (le_1061.trans (le_1062.trans (le_1063.trans (le_1064.trans (le_1065.trans (le_1066.trans (le_1067.trans le_1068))))))))))))))))))))))))))) ((hr_916.rd lo_1042 (Mem.no_le _)).mono (le_1043.trans (le_1044.trans (le_1045.trans (le_1046.trans (le_1047.trans (le_1048.trans (le_1049.trans (le_1050.trans (le_1051.trans (le_1052.trans (le_1053.trans (le_1054.trans (le_1055.trans (le_1056.trans (le_1057.trans (le_1058.trans (le_1059.trans (le_1060.trans (le_1061.trans (le_1062.trans (le_1063.trans (le_1064.trans (le_1065.trans (le_1066.trans (le_1067.trans le_1068)))))))))))))))))))))))))) ((hr_920.rd lo_1043 (Mem.no_le _)).mono (le_1044.trans (le_1045.trans (le_1046.trans (le_1047.trans (le_1048.trans (le_1049.trans (le_1050.trans (le_1051.trans (le_1052.trans (le_1053.trans (le_1054.trans (le_1055.trans (le_1056.trans (le_1057.trans (le_1058.trans (le_1059.trans (le_1060.trans (le_1061.trans (le_1062.trans (le_1063.trans (le_1064.trans (le_1065.trans (le_1066.trans (le_1067.trans le_1068))))))))))))))))))))))))) ((hr_924.rd lo_1044 (Mem.no_le _)).mono (le_1045.trans (le_1046.trans (le_1047.trans (le_1048.trans (le_1049.trans (le_1050.trans (le_1051.trans (le_1052.trans (le_1053.trans (le_1054.trans (le_1055.trans (le_1056.trans (le_1057.trans (le_1058.trans (le_1059.trans (le_1060.trans (le_1061.trans (le_1062.trans (le_1063.trans (le_1064.trans (le_1065.trans (le_1066.trans (le_1067.trans le_1068)))))))))))))))))))))))))).append ((Reps.one (d := k_api_Msg) (x := t_927) (k_api_Msg.mk' ((hr_932.rd lo_1045 (Mem.no_le _)).mono (le_1046.trans (le_1047.trans (le_1048.trans (le_1049.trans (le_1050.trans (le_1051.trans (le_1052.trans (le_1053.trans (le_1054.trans (le_1055.trans (le_1056.trans (le_1057.trans (le_1058.trans (le_1059.trans (le_1060.trans (le_1061.trans (le_1062.trans (le_1063.trans (le_1064.trans (le_1065.trans (le_1066.trans (le_1067.trans le_1068))))))))))))))))))))))) ((hr_936.rd lo_1046 (Mem.no_le _)).mono (le_1047.trans (le_1048.trans (le_1049.trans (le_1050.trans (le_1051.trans (le_1052.trans (le_1053.trans (le_1054.trans (le_1055.trans (le_1056.trans (le_1057.trans (le_1058.trans (le_1059.trans (le_1060.trans (le_1061.trans (le_1062.trans (le_1063.trans (le_1064.trans (le_1065.trans (le_1066.trans (le_1067.trans le_1068)))))))))))))))))))))) ((hr_940.rd lo_1047 (Mem.no_le _)).mono (le_1048.trans (le_1049.trans (le_1050.trans (le_1051.trans (le_1052.trans (le_1053.trans (le_1054.trans (le_1055.trans (le_1056.trans (le_1057.trans (le_1058.trans (le_1059.trans (le_1060.trans (le_1061.trans (le_1062.trans (le_1063.trans (le_1064.trans (le_1065.trans (le_1066.trans (le_1067.trans le_1068))))))))))))))))))))) ((hr_944.rd lo_1048 (Mem.no_le _)).mono (le_1049.trans (le_1050.trans (le_1051.trans (le_1052.trans (le_1053.trans (le_1054.trans (le_1055.trans (le_1056.trans (le_1057.trans (le_1058.trans (le_1059.trans (le_1060.trans (le_1061.trans (le_1062.trans (le_1063.trans (le_1064.trans (le_1065.trans (le_1066.trans (le_1067.trans le_1068)))))))))))))))))))) ((hr_948.rd lo_1049 (Mem.no_le _)).mono (le_1050.trans (le_1051.trans (le_1052.trans (le_1053.trans (le_1054.trans (le_1055.trans (le_1056.trans (le_1057.trans (le_1058.trans (le_1059.trans (le_1060.trans (le_1061.trans (le_1062.trans (le_1063.trans (le_1064.trans (le_1065.trans (le_1066.trans (le_1067.trans le_1068))))))))))))))))))) ((hr_952.rd lo_1050 (Mem.no_le _)).mono (le_1051.trans (le_1052.trans (le_1053.trans (le_1054.trans (le_1055.trans (le_1056.trans (le_1057.trans (le_1058.trans (le_1059.trans (le_1060.trans (le_1061.trans (le_1062.trans (le_1063.trans (le_1064.trans (le_1065.trans (le_1066.trans (le_1067.trans le_1068)))))))))))))))))))).append ((Reps.one (d := k_api_Msg) (x := t_955) (k_api_Msg.mk' ((hr_960.rd lo_1051 (Mem.no_le _)).mono (le_1052.trans (le_1053.trans (le_1054.trans (le_1055.trans (le_1056.trans (le_1057.trans (le_1058.trans (le_1059.trans (le_1060.trans (le_1061.trans (le_1062.trans (le_1063.trans (le_1064.trans (le_1065.trans (le_1066.trans (le_1067.trans le_1068))))))))))))))))) ((hr_964.rd lo_1052 (Mem.no_le _)).mono (le_1053.trans (le_1054.trans (le_1055.trans (le_1056.trans (le_1057.trans (le_1058.trans (le_1059.trans (le_1060.trans (le_1061.trans (le_1062.trans (le_1063.trans (le_1064.trans (le_1065.trans (le_1066.trans (le_1067.trans le_1068)))))))))))))))) ((hr_968.rd lo_1053 (Mem.no_le _)).mono (le_1054.trans (le_1055.trans (le_1056.trans (le_1057.trans (le_1058.trans (le_1059.trans (le_1060.trans (le_1061.trans (le_1062.trans (le_1063.trans (le_1064.trans (le_1065.trans (le_1066.trans (le_1067.trans le_1068))))))))))))))) ((hr_972.rd lo_1054 (Mem.no_le _)).mono (le_1055.trans (le_1056.trans (le_1057.trans (le_1058.trans (le_1059.trans (le_1060.trans (le_1061.trans (le_1062.trans (le_1063.trans (le_1064.trans (le_1065.trans (le_1066.trans (le_1067.trans le_1068)))))))))))))) ((hr_976.rd lo_1055 (Mem.no_le _)).mono (le_1056.trans (le_1057.trans (le_1058.trans (le_1059.trans (le_1060.trans (le_1061.trans (le_1062.trans (le_1063.trans (le_1064.trans (le_1065.trans (le_1066.trans (le_1067.trans le_1068))))))))))))) ((hr_980.rd lo_1056 (Mem.no_le _)).mono (le_1057.trans (le_1058.trans (le_1059.trans (le_1060.trans (le_1061.trans (le_1062.trans (le_1063.trans (le_1064.trans (le_1065.trans (le_1066.trans (le_1067.trans le_1068)))))))))))))).append ((Reps.one (d := k_api_Msg) (x := t_983) (k_api_Msg.mk' ((hr_988.rd lo_1057 (Mem.no_le _)).mono (le_1058.trans (le_1059.trans (le_1060.trans (le_1061.trans (le_1062.trans (le_1063.trans (le_1064.trans (le_1065.trans (le_1066.trans (le_1067.trans le_1068))))))))))) ((hr_992.rd lo_1058 (Mem.no_le _)).mono (le_1059.trans (le_1060.trans (le_1061.trans (le_1062.trans (le_1063.trans (le_1064.trans (le_1065.trans (le_1066.trans (le_1067.trans le_1068)))))))))) ((hr_996.rd lo_1059 (Mem.no_le _)).mono (le_1060.trans (le_1061.trans (le_1062.trans (le_1063.trans (le_1064.trans (le_1065.trans (le_1066.trans (le_1067.trans le_1068))))))))) ((hr_1000.rd lo_1060 (Mem.no_le _)).mono (le_1061.trans (le_1062.trans (le_1063.trans (le_1064.trans (le_1065.trans (le_1066.trans (le_1067.trans le_1068)))))))) ((hr_1004.rd lo_1061 (Mem.no_le _)).mono (le_1062.trans (le_1063.trans (le_1064.trans (le_1065.trans (le_1066.trans (le_1067.trans le_1068))))))) ((hr_1008.rd lo_1062 (Mem.no_le _)).mono (le_1063.trans (le_1064.trans (le_1065.trans (le_1066.trans (le_1067.trans le_1068)))))))).append ((Reps.one (d := k_api_Msg) (x := t_1011) (k_api_Msg.mk' ((hr_1016.rd lo_1063 (Mem.no_le _)).mono (le_1064.trans (le_1065.trans (le_1066.trans (le_1067.trans le_1068))))) ((hr_1020.rd lo_1064 (Mem.no_le _)).mono (le_1065.trans (le_1066.trans (le_1067.trans le_1068)))) ((hr_1024.rd lo_1065 (Mem.no_le _)).mono (le_1066.trans (le_1067.trans le_1068))) ((hr_1028.rd lo_1066 (Mem.no_le _)).mono (le_1067.trans le_1068)) ((hr_1032.rd lo_1067 (Mem.no_le _)).mono le_1068) (hr_1036.rd lo_1068 (Mem.no_le _)))).append (Reps.nil k_api_Msg _))))))
  refine s_buildSlice hm rfl Try.underlying31 ti29 rfl rfl rfl (.cons rfl (.cons rfl (.cons rfl (.cons rfl (.cons rfl .nil))))) rfl rfl rfl hS hq_1073 rfl ?_
  intro w_1069 v_1070 M_1071 hS' ho_1072
  clear hm a; intro a hm
  replace hS : Sep w0 w_1069 [N_1068, M_71, M_179, M_287, M_395, M_503, M_611, M_753, M_895, Mem.no, Mem.no, Mem.no, Mem.no, Mem.no, Mem.no, Mem.no, Mem.no, Mem.no, Mem.no, Mem.no, Mem.no, Mem.no, Mem.no, Mem.no, Mem.no, Mem.no, Mem.no, Mem.no, Mem.no, Mem.no, Mem.no, Mem.no, Mem.no, Mem.no, Mem.no, Mem.no, Mem.no, Mem.no, Mem.no, M_1071] Z := hS'
  clear hS' hq_1073
  replace hS : Sep w0 w_1069 [N_1068, M_71, M_179, M_287, M_395, M_503, M_611, M_753, M_895, M_1071] Z := hS.sel [0, 1, 2, 3, 4, 5, 6, 7, 8, 39] (by decide)
  refine s_build hm rfl ti32 pl32 rfl (.cons ho_1072.cells (.cons rfl (.cons rfl (.cons rfl (.cons rfl .nil))))) (cs := [v_1070, .int .i64 31, .int .i64 0, .int .i64 3, .bool true]) rfl ?_
  clear hm a; intro a hm
  refine s_move hm rfl rfl ?_
  clear hm a; intro a hm
  obtain ⟨t_1075, et_1075, H⟩ := Option.bind_eq_some_iff.1 H
  refine s_callv hm rfl rfl Try.call15 rfl (hocketlaw14_ViewForms_1.calls 0 8 3 true t_1075 w0 _ _ _ (Mem.le.refl _) (hS.enter [] (by decide))  et_1075) ?_
  rintro _ w_1076 ⟨v_1079, v_1083, v_1087, v_1091, v_1095, v_1099, N_1077, M_1081, M_1085, M_1089, M_1093, M_1097, M_1101, rfl, hS', hr_1080, hr_1084, hr_1088, hr_1092, hr_1096, hr_1100⟩
  clear hm a; intro a hm
  obtain ⟨N_1078, hS'', le_1078, ln_1078⟩ := hS.call [] (by decide) rfl (l' := []) (ow := [M_1081, M_1085, M_1089, M_1093, M_1097, M_1101]) rfl hS'
  replace hS : Sep w0 w_1076 [N_1078, M_71, M_179, M_287, M_395, M_503, M_611, M_753, M_895, M_1071, M_1081, M_1085, M_1089, M_1093, M_1097, M_1101] Z := hS''
  clear hS' hS''
  refine s_build hm rfl ti29 pl29 rfl (.cons rfl (.cons rfl .nil)) (cs := [.int .i64 6, .int .i64 1, .int .i64 0, .int .i64 0, .int .i64 0, .int .i64 0, .bool false, .int .i64 0, .int .i64 0, .int .i64 0, .int .i64 0, .slice none 0 0, .int .i64 0, .int .i64 0, .slice none 0 0, .slice none 0 0, .int .i64 0, .int .i64 0, .int .i64 0, .int .i64 0, .int .i64 0, .slice none 0 0, .slice none 0 0, .slice none 0 0]) rfl ?_
  clear hm a; intro a hm
  refine s_move hm rfl rfl ?_
  clear hm a; intro a hm
  obtain ⟨t_1103, et_1103, H⟩ := Option.bind_eq_some_iff.1 H
  refine s_callv hm rfl rfl Try.call15 rfl (hocketlaw14_ViewForms_1.calls 2 8 3 true t_1103 w0 _ _ _ (Mem.le.refl _) (hS.enter [] (by decide))  et_1103) ?_
  rintro _ w_1104 ⟨v_1107, v_1111, v_1115, v_1119, v_1123, v_1127, N_1105, M_1109, M_1113, M_1117, M_1121, M_1125, M_1129, rfl, hS', hr_1108, hr_1112, hr_1116, hr_1120, hr_1124, hr_1128⟩
  clear hm a; intro a hm
  obtain ⟨N_1106, hS'', le_1106, ln_1106⟩ := hS.call [] (by decide) rfl (l' := []) (ow := [M_1109, M_1113, M_1117, M_1121, M_1125, M_1129]) rfl hS'
  replace hS : Sep w0 w_1104 [N_1106, M_71, M_179, M_287, M_395, M_503, M_611, M_753, M_895, M_1071, M_1081, M_1085, M_1089, M_1093, M_1097, M_1101, M_1109, M_1113, M_1117, M_1121, M_1125, M_1129] Z := hS''
  clear hS' hS''
  obtain ⟨N_1131, hS', le_1131, lo_1131⟩ := hS.freeze 9 rfl
  replace hS : Sep w0 w_1104 [N_1131, M_71, M_179, M_287, M_395, M_503, M_611, M_753, M_895, M_1071, Mem.no, M_1085, M_1089, M_1093, M_1097, M_1101, M_1109, M_1113, M_1117, M_1121, M_1125, M_1129] Z := hS'
  clear hS'
  obtain ⟨N_1132, hS', le_1132, lo_1132⟩ := hS.freeze 10 rfl
  replace hS : Sep w0 w_1104 [N_1132, M_71, M_179, M_287, M_395, M_503, M_611, M_753, M_895, M_1071, Mem.no, Mem.no, M_1089, M_1093, M_1097, M_1101, M_1109, M_1113, M_1117, M_1121, M_1125, M_1129] Z := hS'
  clear hS'
  obtain ⟨N_1133, hS', le_1133, lo_1133⟩ := hS.freeze 11 rfl
  replace hS : Sep w0 w_1104 [N_1133, M_71, M_179, M_287, M_395, M_503, M_611, M_753, M_895, M_1071, Mem.no, Mem.no, Mem.no, M_1093, M_1097, M_1101, M_1109, M_1113, M_1117, M_1121, M_1125, M_1129] Z := hS'
  clear hS'
  obtain ⟨N_1134, hS', le_1134, lo_1134⟩ := hS.freeze 12 rfl
  replace hS : Sep w0 w_1104 [N_1134, M_71, M_179, M_287, M_395, M_503, M_611, M_753, M_895, M_1071, Mem.no, Mem.no, Mem.no, Mem.no, M_1097, M_1101, M_1109, M_1113, M_1117, M_1121, M_1125, M_1129] Z := hS'
  clear hS'
  obtain ⟨N_1135, hS', le_1135, lo_1135⟩ := hS.freeze 13 rfl
  replace hS : Sep w0 w_1104 [N_1135, M_71, M_179, M_287, M_395, M_503, M_611, M_753, M_895, M_1071, Mem.no, Mem.no, Mem.no, Mem.no, Mem.no, M_1101, M_1109, M_1113, M_1117, M_1121, M_1125, M_1129] Z := hS'
  clear hS'
  obtain ⟨N_1136, hS', le_1136, lo_1136⟩ := hS.freeze 14 rfl
  replace hS : Sep w0 w_1104 [N_1136, M_71, M_179, M_287, M_395, M_503, M_611, M_753, M_895, M_1071, Mem.no, Mem.no, Mem.no, Mem.no, Mem.no, Mem.no, M_1109, M_1113, M_1117, M_1121, M_1125, M_1129] Z := hS'
  clear hS'
  obtain ⟨N_1137, hS', le_1137, lo_1137⟩ := hS.freeze 15 rfl
  replace hS : Sep w0 w_1104 [N_1137, M_71, M_179, M_287, M_395, M_503, M_611, M_753, M_895, M_1071, Mem.no, Mem.no, Mem.no, Mem.no, Mem.no, Mem.no, Mem.no, M_1113, M_1117, M_1121, M_1125, M_1129] Z := hS'
  clear hS'
  obtain ⟨N_1138, hS', le_1138, lo_1138⟩ := hS.freeze 16 rfl
  replace hS : Sep w0 w_1104 [N_1138, M_71, M_179, M_287, M_395, M_503, M_611, M_753, M_895, M_1071, Mem.no, Mem.no, Mem.no, Mem.no, Mem.no, Mem.no, Mem.no, Mem.no, M_1117, M_1121, M_1125, M_1129] Z := hS'
  clear hS'
  obtain ⟨N_1139, hS', le_1139, lo_1139⟩ := hS.freeze 17 rfl
  replace hS : Sep w0 w_1104 [N_1139, M_71, M_179, M_287, M_395, M_503, M_611, M_753, M_895, M_1071, Mem.no, Mem.no, Mem.no, Mem.no, Mem.no, Mem.no, Mem.no, Mem.no, Mem.no, M_1121, M_1125, M_1129] Z := hS'
  clear hS'
  obtain ⟨N_1140, hS', le_1140, lo_1140⟩ := hS.freeze 18 rfl
  replace hS : Sep w0 w_1104 [N_1140, M_71, M_179, M_287, M_395, M_503, M_611, M_753, M_895, M_1071, Mem.no, Mem.no, Mem.no, Mem.no, Mem.no, Mem.no, Mem.no, Mem.no, Mem.no, Mem.no, M_1125, M_1129] Z := hS'
  clear hS'
  obtain ⟨N_1141, hS', le_1141, lo_1141⟩ := hS.freeze 19 rfl
  replace hS : Sep w0 w_1104 [N_1141, M_71, M_179, M_287, M_395, M_503, M_611, M_753, M_895, M_1071, Mem.no, Mem.no, Mem.no, Mem.no, Mem.no, Mem.no, Mem.no, Mem.no, Mem.no, Mem.no, Mem.no, M_1129] Z := hS'
  clear hS'
  obtain ⟨N_1142, hS', le_1142, lo_1142⟩ := hS.freeze 20 rfl
  replace hS : Sep w0 w_1104 [N_1142, M_71, M_179, M_287, M_395, M_503, M_611, M_753, M_895, M_1071, Mem.no, Mem.no, Mem.no, Mem.no, Mem.no, Mem.no, Mem.no, Mem.no, Mem.no, Mem.no, Mem.no, Mem.no] Z := hS'
  clear hS'
  have hq_1147 : Reps k_api_Msg N_1142 ([t_1075, (⟨6, 1, 0, 0, 0, 0, false, 0, 0, 0, 0, ([] : List UInt8), 0, 0, ([] : List Int), ([] : List Int), 0, (⟨0, 0, (⟨0, 0, ([] : List UInt8), ([] : List UInt8), ([] : List UInt8)⟩ : api_Cmd)⟩ : api_Entry)⟩ : api_Msg), t_1103] : List api_Msg) _ := ((Reps.one (d := k_api_Msg) (x := t_1075) (k_api_Msg.mk' ((hr_1080.rd lo_1131 (Mem.no_le _)).mono (le_1132.trans (le_1133.trans (le_1134.trans (le_1135.trans (le_1136.trans (le_1137.trans (le_1138.trans (le_1139.trans (le_1140.trans (le_1141.trans le_1142))))))))))) ((hr_1084.rd lo_1132 (Mem.no_le _)).mono (le_1133.trans (le_1134.trans (le_1135.trans (le_1136.trans (le_1137.trans (le_1138.trans (le_1139.trans (le_1140.trans (le_1141.trans le_1142)))))))))) ((hr_1088.rd lo_1133 (Mem.no_le _)).mono (le_1134.trans (le_1135.trans (le_1136.trans (le_1137.trans (le_1138.trans (le_1139.trans (le_1140.trans (le_1141.trans le_1142))))))))) ((hr_1092.rd lo_1134 (Mem.no_le _)).mono (le_1135.trans (le_1136.trans (le_1137.trans (le_1138.trans (le_1139.trans (le_1140.trans (le_1141.trans le_1142)))))))) ((hr_1096.rd lo_1135 (Mem.no_le _)).mono (le_1136.trans (le_1137.trans (le_1138.trans (le_1139.trans (le_1140.trans (le_1141.trans le_1142))))))) ((hr_1100.rd lo_1136 (Mem.no_le _)).mono (le_1137.trans (le_1138.trans (le_1139.trans (le_1140.trans (le_1141.trans le_1142)))))))).append ((Reps.one (d := k_api_Msg) (x := (⟨6, 1, 0, 0, 0, 0, false, 0, 0, 0, 0, ([] : List UInt8), 0, 0, ([] : List Int), ([] : List Int), 0, (⟨0, 0, (⟨0, 0, ([] : List UInt8), ([] : List UInt8), ([] : List UInt8)⟩ : api_Cmd)⟩ : api_Entry)⟩ : api_Msg)) (k_api_Msg.mk' (Rd.nil _ _) (Rd.nil _ _) (Rd.nil _ _) (Rd.nil _ _) (Rd.nil _ _) (Rd.nil _ _))).append ((Reps.one (d := k_api_Msg) (x := t_1103) (k_api_Msg.mk' ((hr_1108.rd lo_1137 (Mem.no_le _)).mono (le_1138.trans (le_1139.trans (le_1140.trans (le_1141.trans le_1142))))) ((hr_1112.rd lo_1138 (Mem.no_le _)).mono (le_1139.trans (le_1140.trans (le_1141.trans le_1142)))) ((hr_1116.rd lo_1139 (Mem.no_le _)).mono (le_1140.trans (le_1141.trans le_1142))) ((hr_1120.rd lo_1140 (Mem.no_le _)).mono (le_1141.trans le_1142)) ((hr_1124.rd lo_1141 (Mem.no_le _)).mono le_1142) (hr_1128.rd lo_1142 (Mem.no_le _)))).append (Reps.nil k_api_Msg _))))
  refine s_buildSlice hm rfl Try.underlying31 ti29 rfl rfl rfl (.cons rfl (.cons rfl (.cons rfl .nil))) rfl rfl rfl hS hq_1147 rfl ?_
  intro w_1143 v_1144 M_1145 hS' ho_1146
  clear hm a; intro a hm
  replace hS : Sep w0 w_1143 [N_1142, M_71, M_179, M_287, M_395, M_503, M_611, M_753, M_895, M_1071, Mem.no, Mem.no, Mem.no, Mem.no, Mem.no, Mem.no, Mem.no, Mem.no, Mem.no, Mem.no, Mem.no, Mem.no, M_1145] Z := hS'
  clear hS' hq_1147
  replace hS : Sep w0 w_1143 [N_1142, M_71, M_179, M_287, M_395, M_503, M_611, M_753, M_895, M_1071, M_1145] Z := hS.sel [0, 1, 2, 3, 4, 5, 6, 7, 8, 9, 22] (by decide)
  refine s_build hm rfl ti32 pl32 rfl (.cons ho_1146.cells (.cons rfl (.cons rfl (.cons rfl (.cons rfl .nil))))) (cs := [v_1144, .int .i64 0, .int .i64 0, .int .i64 0, .bool false]) rfl ?_
  clear hm a; intro a hm
  obtain ⟨N_1149, hS', le_1149, lo_1149⟩ := hS.freeze 0 rfl
  replace hS : Sep w0 w_1143 [N_1149, Mem.no, M_179, M_287, M_395, M_503, M_611, M_753, M_895, M_1071, M_1145] Z := hS'
  clear hS'
  obtain ⟨N_1150, hS', le_1150, lo_1150⟩ := hS.freeze 1 rfl
  replace hS : Sep w0 w_1143 [N_1150, Mem.no, Mem.no, M_287, M_395, M_503, M_611, M_753, M_895, M_1071, M_1145] Z := hS'
  clear hS'
  obtain ⟨N_1151, hS', le_1151, lo_1151⟩ := hS.freeze 2 rfl
  replace hS : Sep w0 w_1143 [N_1151, Mem.no, Mem.no, Mem.no, M_395, M_503, M_611, M_753, M_895, M_1071, M_1145] Z := hS'
  clear hS'
  obtain ⟨N_1152, hS', le_1152, lo_1152⟩ := hS.freeze 3 rfl
  replace hS : Sep w0 w_1143 [N_1152, Mem.no, Mem.no, Mem.no, Mem.no, M_503, M_611, M_753, M_895, M_1071, M_1145] Z := hS'
  clear hS'
  obtain ⟨N_1153, hS', le_1153, lo_1153⟩ := hS.freeze 4 rfl
  replace hS : Sep w0 w_1143 [N_1153, Mem.no, Mem.no, Mem.no, Mem.no, Mem.no, M_611, M_753, M_895, M_1071, M_1145] Z := hS'
  clear hS'
  obtain ⟨N_1154, hS', le_1154, lo_1154⟩ := hS.freeze 5 rfl
  replace hS : Sep w0 w_1143 [N_1154, Mem.no, Mem.no, Mem.no, Mem.no, Mem.no, Mem.no, M_753, M_895, M_1071, M_1145] Z := hS'
  clear hS'
  obtain ⟨N_1155, hS', le_1155, lo_1155⟩ := hS.freeze 6 rfl
  replace hS : Sep w0 w_1143 [N_1155, Mem.no, Mem.no, Mem.no, Mem.no, Mem.no, Mem.no, Mem.no, M_895, M_1071, M_1145] Z := hS'
  clear hS'
  obtain ⟨N_1156, hS', le_1156, lo_1156⟩ := hS.freeze 7 rfl
  replace hS : Sep w0 w_1143 [N_1156, Mem.no, Mem.no, Mem.no, Mem.no, Mem.no, Mem.no, Mem.no, Mem.no, M_1071, M_1145] Z := hS'
  clear hS'
  obtain ⟨N_1157, hS', le_1157, lo_1157⟩ := hS.freeze 8 rfl
  replace hS : Sep w0 w_1143 [N_1157, Mem.no, Mem.no, Mem.no, Mem.no, Mem.no, Mem.no, Mem.no, Mem.no, Mem.no, M_1145] Z := hS'
  clear hS'
  obtain ⟨N_1158, hS', le_1158, lo_1158⟩ := hS.freeze 9 rfl
  replace hS : Sep w0 w_1143 [N_1158, Mem.no, Mem.no, Mem.no, Mem.no, Mem.no, Mem.no, Mem.no, Mem.no, Mem.no, Mem.no] Z := hS'
  clear hS'
  have hq_1163 : Reps k_An_l_mask_source_n_ok N_1158 ([(⟨([] : List api_Msg), 0, 0, 0, false⟩ : An_l_mask_source_n_ok), (⟨([t_1, t_29] : List api_Msg), 0, 0, 0, false⟩ : An_l_mask_source_n_ok), (⟨([t_75, t_103, t_131] : List api_Msg), 19, 0, 0, true⟩ : An_l_mask_source_n_ok), (⟨([t_183, t_211, t_239] : List api_Msg), 19, 1, 2, true⟩ : An_l_mask_source_n_ok), (⟨([t_291, t_319, t_347] : List api_Msg), 0, 0, 0, false⟩ : An_l_mask_source_n_ok), (⟨([t_399, t_427, t_455] : List api_Msg), 22, 1, 3, true⟩ : An_l_mask_source_n_ok), (⟨([t_507, t_535, t_563] : List api_Msg), 22, 4, 4, true⟩ : An_l_mask_source_n_ok), (⟨([t_615, t_643, t_671, t_699] : List api_Msg), 22, 4, 4, true⟩ : An_l_mask_source_n_ok), (⟨([t_757, t_785, t_813, t_841] : List api_Msg), 22, 4, 4, true⟩ : An_l_mask_source_n_ok), (⟨([t_899, t_927, t_955, t_983, t_1011] : List api_Msg), 31, 0, 3, true⟩ : An_l_mask_source_n_ok), (⟨([t_1075, (⟨6, 1, 0, 0, 0, 0, false, 0, 0, 0, 0, ([] : List UInt8), 0, 0, ([] : List Int), ([] : List Int), 0, (⟨0, 0, (⟨0, 0, ([] : List UInt8), ([] : List UInt8), ([] : List UInt8)⟩ : api_Cmd)⟩ : api_Entry)⟩ : api_Msg), t_1103] : List api_Msg), 0, 0, 0, false⟩ : An_l_mask_source_n_ok)] : List An_l_mask_source_n_ok) _ := ((Reps.one (d := k_An_l_mask_source_n_ok) (x := (⟨([] : List api_Msg), 0, 0, 0, false⟩ : An_l_mask_source_n_ok)) (k_An_l_mask_source_n_ok.mk' (Rd.nil _ _))).append ((Reps.one (d := k_An_l_mask_source_n_ok) (x := (⟨([t_1, t_29] : List api_Msg), 0, 0, 0, false⟩ : An_l_mask_source_n_ok)) (k_An_l_mask_source_n_ok.mk' ((ho_72.rd lo_1149 (le_78.trans (le_106.trans (le_134.trans (le_159.trans (le_160.trans (le_161.trans (le_162.trans (le_163.trans (le_164.trans (le_165.trans (le_166.trans (le_167.trans (le_168.trans (le_169.trans (le_170.trans (le_171.trans (le_172.trans (le_173.trans (le_174.trans (le_175.trans (le_176.trans (le_186.trans (le_214.trans (le_242.trans (le_267.trans (le_268.trans (le_269.trans (le_270.trans (le_271.trans (le_272.trans (le_273.trans (le_274.trans (le_275.trans (le_276.trans (le_277.trans (le_278.trans (le_279.trans (le_280.trans (le_281.trans (le_282.trans (le_283.trans (le_284.trans (le_294.trans (le_322.trans (le_350.trans (le_375.trans (le_376.trans (le_377.trans (le_378.trans (le_379.trans (le_380.trans (le_381.trans (le_382.trans (le_383.trans (le_384.trans (le_385.trans (le_386.trans (le_387.trans (le_388.trans (le_389.trans (le_390.trans (le_391.trans (le_392.trans (le_402.trans (le_430.trans (le_458.trans (le_483.trans (le_484.trans (le_485.trans (le_486.trans (le_487.trans (le_488.trans (le_489.trans (le_490.trans (le_491.trans (le_492.trans (le_493.trans (le_494.trans (le_495.trans (le_496.trans (le_497.trans (le_498.trans (le_499.trans (le_500.trans (le_510.trans (le_538.trans (le_566.trans (le_591.trans (le_592.trans (le_593.trans (le_594.trans (le_595.trans (le_596.trans (le_597.trans (le_598.trans (le_599.trans (le_600.trans (le_601.trans (le_602.trans (le_603.trans (le_604.trans (le_605.trans (le_606.trans (le_607.trans (le_608.trans (le_618.trans (le_646.trans (le_674.trans (le_702.trans (le_727.trans (le_728.trans (le_729.trans (le_730.trans (le_731.trans (le_732.trans (le_733.trans (le_734.trans (le_735.trans (le_736.trans (le_737.trans (le_738.trans (le_739.trans (le_740.trans (le_741.trans (le_742.trans (le_743.trans (le_744.trans (le_745.trans (le_746.trans (le_747.trans (le_748.trans (le_749.trans (le_750.trans (le_760.trans (le_788.trans (le_816.trans (le_844.trans (le_869.trans (le_870.trans (le_871.trans (le_872.trans (le_873.trans (le_874.trans (le_875.trans (le_876.trans (le_877.trans (le_878.trans (le_879.trans (le_880.trans (le_881.trans (le_882.trans (le_883.trans (le_884.trans (le_885.trans (le_886.trans (le_887.trans (le_888.trans (le_889.trans (le_890.trans (le_891.trans (le_892.trans (le_902.trans (le_930.trans (le_958.trans (le_986.trans (le_1014.trans (le_1039.trans (le_1040.trans (le_1041.trans (le_1042.trans (le_1043.trans (le_1044.trans (le_1045.trans (le_1046.trans (le_1047.trans (le_1048.trans (le_1049.trans (le_1050.trans (le_1051.trans (le_1052.trans (le_1053.trans (le_1054.trans (le_1055.trans (le_1056.trans (le_1057.trans (le_1058.trans (le_1059.trans (le_1060.trans (le_1061.trans (le_1062.trans (le_1063.trans (le_1064.trans (le_1065.trans (le_1066.trans (le_1067.trans (le_1068.trans (le_1078.trans (le_1106.trans (le_1131.trans (le_1132.trans (le_1133.trans (le_1134.trans (le_1135.trans (le_1136.trans (le_1137.trans (le_1138.trans (le_1139.trans (le_1140.trans (le_1141.trans (le_1142.trans le_1149))))))))))))))))))))))))))))))))))))))))))))))))))))))))))))))))))))))))))))))))))))))))))))))))))))))))))))))))))))))))))))))))))))))))))))))))))))))))))))))))))))))))))))))))))))))))))))))))))))))))))))))))))).mono (le_1150.trans (le_1151.trans (le_1152.trans (le_1153.trans (le_1154.trans (le_1155.trans (le_1156.trans (le_1157.trans le_1158))))))))))).append ((Reps.one (d := k_An_l_mask_source_n_ok) (x := (⟨([t_75, t_103, t_131] : List api_Msg), 19, 0, 0, true⟩ : An_l_mask_source_n_ok)) (k_An_l_mask_source_n_ok.mk' ((ho_180.rd lo_1150 (le_186.trans (le_214.trans (le_242.trans (le_267.trans (le_268.trans (le_269.trans (le_270.trans (le_271.trans (le_272.trans (le_273.trans (le_274.trans (le_275.trans (le_276.trans (le_277.trans (le_278.trans (le_279.trans (le_280.trans (le_281.trans (le_282.trans (le_283.trans (le_284.trans (le_294.trans (le_322.trans (le_350.trans (le_375.trans (le_376.trans (le_377.trans (le_378.trans (le_379.trans (le_380.trans (le_381.trans (le_382.trans (le_383.trans (le_384.trans (le_385.trans (le_386.trans (le_387.trans (le_388.trans (le_389.trans (le_390.trans (le_391.trans (le_392.trans (le_402.trans (le_430.trans (le_458.trans (le_483.trans (le_484.trans (le_485.trans (le_486.trans (le_487.trans (le_488.trans (le_489.trans (le_490.trans (le_491.trans (le_492.trans (le_493.trans (le_494.trans (le_495.trans (le_496.trans (le_497.trans (le_498.trans (le_499.trans (le_500.trans (le_510.trans (le_538.trans (le_566.trans (le_591.trans (le_592.trans (le_593.trans (le_594.trans (le_595.trans (le_596.trans (le_597.trans (le_598.trans (le_599.trans (le_600.trans (le_601.trans (le_602.trans (le_603.trans (le_604.trans (le_605.trans (le_606.trans (le_607.trans (le_608.trans (le_618.trans (le_646.trans (le_674.trans (le_702.trans (le_727.trans (le_728.trans (le_729.trans (le_730.trans (le_731.trans (le_732.trans (le_733.trans (le_734.trans (le_735.trans (le_736.trans (le_737.trans (le_738.trans (le_739.trans (le_740.trans (le_741.trans (le_742.trans (le_743.trans (le_744.trans (le_745.trans (le_746.trans (le_747.trans (le_748.trans (le_749.trans (le_750.trans (le_760.trans (le_788.trans (le_816.trans (le_844.trans (le_869.trans (le_870.trans (le_871.trans (le_872.trans (le_873.trans (le_874.trans (le_875.trans (le_876.trans (le_877.trans (le_878.trans (le_879.trans (le_880.trans (le_881.trans (le_882.trans (le_883.trans (le_884.trans (le_885.trans (le_886.trans (le_887.trans (le_888.trans (le_889.trans (le_890.trans (le_891.trans (le_892.trans (le_902.trans (le_930.trans (le_958.trans (le_986.trans (le_1014.trans (le_1039.trans (le_1040.trans (le_1041.trans (le_1042.trans (le_1043.trans (le_1044.trans (le_1045.trans (le_1046.trans (le_1047.trans (le_1048.trans (le_1049.trans (le_1050.trans (le_1051.trans (le_1052.trans (le_1053.trans (le_1054.trans (le_1055.trans (le_1056.trans (le_1057.trans (le_1058.trans (le_1059.trans (le_1060.trans (le_1061.trans (le_1062.trans (le_1063.trans (le_1064.trans (le_1065.trans (le_1066.trans (le_1067.trans (le_1068.trans (le_1078.trans (le_1106.trans (le_1131.trans (le_1132.trans (le_1133.trans (le_1134.trans (le_1135.trans (le_1136.trans (le_1137.trans (le_1138.trans (le_1139.trans (le_1140.trans (le_1141.trans (le_1142.trans (le_1149.trans le_1150))))))))))))))))))))))))))))))))))))))))))))))))))))))))))))))))))))))))))))))))))))))))))))))))))))))))))))))))))))))))))))))))))))))))))))))))))))))))))))))))))))))))))))))))))))))))))))))).mono (le_1151.trans (le_1152.trans (le_1153.trans (le_1154.trans (le_1155.trans (le_1156.trans (le_1157.trans le_1158)))))))))).append ((Reps.one (d := k_An_l_mask_source_n_ok) (x := (⟨([t_183, t_211, t_239] : List api_Msg), 19, 1, 2, true⟩ : An_l_mask_source_n_ok)) (k_An_l_mask_source_n_ok.mk' ((ho_288.rd lo_1151 (le_294.trans (le_322.trans (le_350.trans (le_375.trans (le_376.trans (le_377.trans (le_378.trans (le_379.trans (le_380.trans (le_381.trans (le_382.trans (le_383.trans (le_384.trans (le_385.trans (le_386.trans (le_387.trans (le_388.trans (le_389.trans (le_390.trans (le_391.trans (le_392.trans (le_402.trans (le_430.trans (le_458.trans (le_483.trans (le_484.trans (le_485.trans (le_486.trans (le_487.trans (le_488.trans (le_489.trans (le_490.trans (le_491.trans (le_492.trans (le_493.trans (le_494.trans (le_495.trans (le_496.trans (le_497.trans (le_498.trans (le_499.trans (le_500.trans (le_510.trans (le_538.trans (le_566.trans (le_591.trans (le_592.trans (le_593.trans (le_594.trans (le_595.trans (le_596.trans (le_597.trans (le_598.trans (le_599.trans (le_600.trans (le_601.trans (le_602.trans (le_603.trans (le_604.trans (le_605.trans (le_606.trans (le_607.trans (le_608.trans (le_618.trans (le_646.trans (le_674.trans (le_702.trans (le_727.trans (le_728.trans (le_729.trans (le_730.trans (le_731.trans (le_732.trans (le_733.trans (le_734.trans (le_735.trans (le_736.trans (le_737.trans (le_738.trans (le_739.trans (le_740.trans (le_741.trans (le_742.trans (le_743.trans (le_744.trans (le_745.trans (le_746.trans (le_747.trans (le_748.trans (le_749.trans (le_750.trans (le_760.trans (le_788.trans (le_816.trans (le_844.trans (le_869.trans (le_870.trans (le_871.trans (le_872.trans (le_873.trans (le_874.trans (le_875.trans (le_876.trans (le_877.trans (le_878.trans (le_879.trans (le_880.trans (le_881.trans (le_882.trans (le_883.trans (le_884.trans (le_885.trans (le_886.trans (le_887.trans (le_888.trans (le_889.trans (le_890.trans (le_891.trans (le_892.trans (le_902.trans (le_930.trans (le_958.trans (le_986.trans (le_1014.trans (le_1039.trans (le_1040.trans (le_1041.trans (le_1042.trans (le_1043.trans (le_1044.trans (le_1045.trans (le_1046.trans (le_1047.trans (le_1048.trans (le_1049.trans (le_1050.trans (le_1051.trans (le_1052.trans (le_1053.trans (le_1054.trans (le_1055.trans (le_1056.trans (le_1057.trans (le_1058.trans (le_1059.trans (le_1060.trans (le_1061.trans (le_1062.trans (le_1063.trans (le_1064.trans (le_1065.trans (le_1066.trans (le_1067.trans (le_1068.trans (le_1078.trans (le_1106.trans (le_1131.trans (le_1132.trans (le_1133.trans (le_1134.trans (le_1135.trans (le_1136.trans (le_1137.trans (le_1138.trans (le_1139.trans (le_1140.trans (le_1141.trans (le_1142.trans (le_1149.trans (le_1150.trans le_1151))))))))))))))))))))))))))))))))))))))))))))))))))))))))))))))))))))))))))))))))))))))))))))))))))))))))))))))))))))))))))))))))))))))))))))))))))))))))))))))))))))))))))).mono (le_1152.trans (le_1153.trans (le_1154.trans (le_1155.trans (le_1156.trans (le_1157.trans le_1158))))))))).append ((Reps.one (d := k_An_l_mask_source_n_ok) (x := (⟨([t_291, t_319, t_347] : List api_Msg), 0, 0, 0, false⟩ : An_l_mask_source_n_ok)) (k_An_l_mask_source_n_ok.mk' ((ho_396.rd lo_1152 (le_402.trans (le_430.trans (le_458.trans (le_483.trans (le_484.trans (le_485.trans (le_486.trans (le_487.trans (le_488.trans (le_489.trans (le_490.trans (le_491.trans (le_492.trans (le_493.trans (le_494.trans (le_495.trans (le_496.trans (le_497.trans (le_498.trans (le_499.trans (le_500.trans (le_510.trans (le_538.trans (le_566.trans (le_591.trans (le_592.trans (le_593.trans (le_594.trans (le_595.trans (le_596.trans (le_597.trans (le_598.trans (le_599.trans (le_600.trans (le_601.trans (le_602.trans (le_603.trans (le_604.trans (le_605.trans (le_606.trans (le_607.trans (le_608.trans (le_618.trans (le_646.trans (le_674.trans (le_702.trans (le_727.trans (le_728.trans (le_729.trans (le_730.trans (le_731.trans (le_732.trans (le_733.trans (le_734.trans (le_735.trans (le_736.trans (le_737.trans (le_738.trans (le_739.trans (le_740.trans (le_741.trans (le_742.trans (le_743.trans (le_744.trans (le_745.trans (le_746.trans (le_747.trans (le_748.trans (le_749.trans (le_750.trans (le_760.trans (le_788.trans (le_816.trans (le_844.trans (le_869.trans (le_870.trans (le_871.trans (le_872.trans (le_873.trans (le_874.trans (le_875.trans (le_876.trans (le_877.trans (le_878.trans (le_879.trans (le_880.trans (le_881.trans (le_882.trans (le_883.trans (le_884.trans (le_885.trans (le_886.trans (le_887.trans (le_888.trans (le_889.trans (le_890.trans (le_891.trans (le_892.trans (le_902.trans (le_930.trans (le_958.trans (le_986.trans (le_1014.trans (le_1039.trans (le_1040.trans (le_1041.trans (le_1042.trans (le_1043.trans (le_1044.trans (le_1045.trans (le_1046.trans (le_1047.trans (le_1048.trans (le_1049.trans (le_1050.trans (le_1051.trans (le_1052.trans (le_1053.trans (le_1054.trans (le_1055.trans (le_1056.trans (le_1057.trans (le_1058.trans (le_1059.trans (le_1060.trans (le_1061.trans (le_1062.trans (le_1063.trans (le_1064.trans (le_1065.trans (le_1066.trans (le_1067.trans (le_1068.trans (le_1078.trans (le_1106.trans (le_1131.trans (le_1132.trans (le_1133.trans (le_1134.trans (le_1135.trans (le_1136.trans (le_1137.trans (le_1138.trans (le_1139.trans (le_1140.trans (le_1141.trans (le_1142.trans (le_1149.trans (le_1150.trans (le_1151.trans le_1152))))))))))))))))))))))))))))))))))))))))))))))))))))))))))))))))))))))))))))))))))))))))))))))))))))))))))))))))))))))))))))))))))))))))))))))))))))))).mono (le_1153.trans (le_1154.trans (le_1155.trans (le_1156.trans (le_1157.trans le_1158)))))))).append ((Reps.one (d := k_An_l_mask_source_n_ok) (x := (⟨([t_399, t_427, t_455] : List api_Msg), 22, 1, 3, true⟩ : An_l_mask_source_n_ok)) (k_An_l_mask_source_n_ok.mk' ((ho_504.rd lo_1153 (le_510.trans (le_538.trans (le_566.trans (le_591.trans (le_592.trans (le_593.trans (le_594.trans (le_595.trans (le_596.trans (le_597.trans (le_598.trans (le_599.trans (le_600.trans (le_601.trans (le_602.trans (le_603.trans (le_604.trans (le_605.trans (le_606.trans (le_607.trans (le_608.trans (le_618.trans (le_646.trans (le_674.trans (le_702.trans (le_727.trans (le_728.trans (le_729.trans (le_730.trans (le_731.trans (le_732.trans (le_733.trans (le_734.trans (le_735.trans (le_736.trans (le_737.trans (le_738.trans (le_739.trans (le_740.trans (le_741.trans (le_742.trans (le_743.trans (le_744.trans (le_745.trans (le_746.trans (le_747.trans (le_748.trans (le_749.trans (le_750.trans (le_760.trans (le_788.trans (le_816.trans (le_844.trans (le_869.trans (le_870.trans (le_871.trans (le_872.trans (le_873.trans (le_874.trans (le_875.trans (le_876.trans (le_877.trans (le_878.trans (le_879.trans (le_880.trans (le_881.trans (le_882.trans (le_883.trans (le_884.trans (le_885.trans (le_886.trans (le_887.trans (le_888.trans (le_889.trans (le_890.trans (le_891.trans (le_892.trans (le_902.trans (le_930.trans (le_958.trans (le_986.trans (le_1014.trans (le_1039.trans (le_1040.trans (le_1041.trans (le_1042.trans (le_1043.trans (le_1044.trans (le_1045.trans (le_1046.trans (le_1047.trans (le_1048.trans (le_1049.trans (le_1050.trans (le_1051.trans (le_1052.trans (le_1053.trans (le_1054.trans (le_1055.trans (le_1056.trans (le_1057.trans (le_1058.trans (le_1059.trans (le_1060.trans (le_1061.trans (le_1062.trans (le_1063.trans (le_1064.trans (le_1065.trans (le_1066.trans (le_1067.trans (le_1068.trans (le_1078.trans (le_1106.trans (le_1131.trans (le_1132.trans (le_1133.trans (le_1134.trans (le_1135.trans (le_1136.trans (le_1137.trans (le_1138.trans (le_1139.trans (le_1140.trans (le_1141.trans (le_1142.trans (le_1149.trans (le_1150.trans (le_1151.trans (le_1152.trans le_1153))))))))))))))))))))))))))))))))))))))))))))))))))))))))))))))))))))))))))))))))))))))))))))))))))))))))))))))))))))))))))))))))))).mono (le_1154.trans (le_1155.trans (le_1156.trans (le_1157.trans le_1158))))))).append ((Reps.one (d := k_An_l_mask_source_n_ok) (x := (⟨([t_507, t_535, t_563] : List api_Msg), 22, 4, 4, true⟩ : An_l_mask_source_n_ok)) (k_An_l_mask_source_n_ok.mk' ((ho_612.rd lo_1154 (le_618.trans (le_646.trans (le_674.trans (le_702.trans (le_727.trans (le_728.trans (le_729.trans (le_730.trans (le_731.trans (le_732.trans (le_733.trans (le_734.trans (le_735.trans (le_736.trans (le_737.trans (le_738.trans (le_739.trans (le_740.trans (le_741.trans (le_742.trans (le_743.trans (le_744.trans (le_745.trans (le_746.trans (le_747.trans (le_748.trans (le_749.trans (le_750.trans (le_760.trans (le_788.trans (le_816.trans (le_844.trans (le_869.trans (le_870.trans (le_871.trans (le_872.trans (le_873.trans (le_874.trans (le_875.trans (le_876.trans (le_877.trans (le_878.trans (le_879.trans (le_880.trans (le_881.trans (le_882.trans (le_883.trans (le_884.trans (le_885.trans (le_886.trans (le_887.trans (le_888.trans (le_889.trans (le_890.trans (le_891.trans (le_892.trans (le_902.trans (le_930.trans (le_958.trans (le_986.trans (le_1014.trans (le_1039.trans (le_1040.trans (le_1041.trans (le_1042.trans (le_1043.trans (le_1044.trans (le_1045.trans (le_1046.trans (le_1047.trans (le_1048.trans (le_1049.trans (le_1050.trans (le_1051.trans (le_1052.trans (le_1053.trans (le_1054.trans (le_1055.trans (le_1056.trans (le_1057.trans (le_1058.trans (le_1059.trans (le_1060.trans (le_1061.trans (le_1062.trans (le_1063.trans (le_1064.trans (le_1065.trans (le_1066.trans (le_1067.trans (le_1068.trans (le_1078.trans (le_1106.trans (le_1131.trans (le_1132.trans (le_1133.trans (le_1134.trans (le_1135.trans (le_1136.trans (le_1137.trans (le_1138.trans (le_1139.trans (le_1140.trans (le_1141.trans (le_1142.trans (le_1149.trans (le_1150.trans (le_1151.trans (le_1152.trans (le_1153.trans le_1154))))))))))))))))))))))))))))))))))))))))))))))))))))))))))))))))))))))))))))))))))))))))))))))))))))))))))))))).mono (le_1155.trans (le_1156.trans (le_1157.trans le_1158)))))).append ((Reps.one (d := k_An_l_mask_source_n_ok) (x := (⟨([t_615, t_643, t_671, t_699] : List api_Msg), 22, 4, 4, true⟩ : An_l_mask_source_n_ok)) (k_An_l_mask_source_n_ok.mk' ((ho_754.rd lo_1155 (le_760.trans (le_788.trans (le_816.trans (le_844.trans (le_869.trans (le_870.trans (le_871.trans (le_872.trans (le_873.trans (le_874.trans (le_875.trans (le_876.trans (le_877.trans (le_878.trans (le_879.trans (le_880.trans (le_881.trans (le_882.trans (le_883.trans (le_884.trans (le_885.trans (le_886.trans (le_887.trans (le_888.trans (le_889.trans (le_890.trans (le_891.trans (le_892.trans (le_902.trans (le_930.trans (le_958.trans (le_986.trans (le_1014.trans (le_1039.trans (le_1040.trans (le_1041.trans (le_1042.trans (le_1043.trans (le_1044.trans (le_1045.trans (le_1046.trans (le_1047.trans (le_1048.trans (le_1049.trans (le_1050.trans (le_1051.trans (le_1052.trans (le_1053.trans (le_1054.trans (le_1055.trans (le_1056.trans (le_1057.trans (le_1058.trans (le_1059.trans (le_1060.trans (le_1061.trans (le_1062.trans (le_1063.trans (le_1064.trans (le_1065.trans (le_1066.trans (le_1067.trans (le_1068.trans (le_1078.trans (le_1106.trans (le_1131.trans (le_1132.trans (le_1133.trans (le_1134.trans (le_1135.trans (le_1136.trans (le_1137.trans (le_1138.trans (le_1139.trans (le_1140.trans (le_1141.trans (le_1142.trans (le_1149.trans (le_1150.trans (le_1151.trans (le_1152.trans (le_1153.trans (le_1154.trans le_1155)))))))))))))))))))))))))))))))))))))))))))))))))))))))))))))))))))))))))))))))))))).mono (le_1156.trans (le_1157.trans le_1158))))).append ((Reps.one (d := k_An_l_mask_source_n_ok) (x := (⟨([t_757, t_785, t_813, t_841] : List api_Msg), 22, 4, 4, true⟩ : An_l_mask_source_n_ok)) (k_An_l_mask_source_n_ok.mk' ((ho_896.rd lo_1156 (le_902.trans (le_930.trans (le_958.trans (le_986.trans (le_1014.trans (le_1039.trans (le_1040.trans (le_1041.trans (le_1042.trans (le_1043.trans (le_1044.trans (le_1045.trans (le_1046.trans (le_1047.trans (le_1048.trans (le_1049.trans (le_1050.trans (le_1051.trans (le_1052.trans (le_1053.trans (le_1054.trans (le_1055.trans (le_1056.trans (le_1057.trans (le_1058.trans (le_1059.trans (le_1060.trans (le_1061.trans (le_1062.trans (le_1063.trans (le_1064.trans (le_1065.trans (le_1066.trans (le_1067.trans (le_1068.trans (le_1078.trans (le_1106.trans (le_1131.trans (le_1132.trans (le_1133.trans (le_1134.trans (le_1135.trans (le_1136.trans (le_1137.trans (le_1138.trans (le_1139.trans (le_1140.trans (le_1141.trans (le_1142.trans (le_1149.trans (le_1150.trans (le_1151.trans (le_1152.trans (le_1153.trans (le_1154.trans (le_1155.trans le_1156))))))))))))))))))))))))))))))))))))))))))))))))))))))))).mono (le_1157.trans le_1158)))).append ((Reps.one (d := k_An_l_mask_source_n_ok) (x := (⟨([t_899, t_927, t_955, t_983, t_1011] : List api_Msg), 31, 0, 3, true⟩ : An_l_mask_source_n_ok)) (k_An_l_mask_source_n_ok.mk' ((ho_1072.rd lo_1157 (le_1078.trans (le_1106.trans (le_1131.trans (le_1132.trans (le_1133.trans (le_1134.trans (le_1135.trans (le_1136.trans (le_1137.trans (le_1138.trans (le_1139.trans (le_1140.trans (le_1141.trans (le_1142.trans (le_1149.trans (le_1150.trans (le_1151.trans (le_1152.trans (le_1153.trans (le_1154.trans (le_1155.trans (le_1156.trans le_1157))))))))))))))))))))))).mono le_1158))).append ((Reps.one (d := k_An_l_mask_source_n_ok) (x := (⟨([t_1075, (⟨6, 1, 0, 0, 0, 0, false, 0, 0, 0, 0, ([] : List UInt8), 0, 0, ([] : List Int), ([] : List Int), 0, (⟨0, 0, (⟨0, 0, ([] : List UInt8), ([] : List UInt8), ([] : List UInt8)⟩ : api_Cmd)⟩ : api_Entry)⟩ : api_Msg), t_1103] : List api_Msg), 0, 0, 0, false⟩ : An_l_mask_source_n_ok)) (k_An_l_mask_source_n_ok.mk' (ho_1146.rd lo_1158 (le_1149.trans (le_1150.trans (le_1151.trans (le_1152.trans (le_1153.trans (le_1154.trans (le_1155.trans (le_1156.trans (le_1157.trans le_1158)))))))))))).append (Reps.nil k_An_l_mask_source_n_ok _))))))))))))
  refine s_buildSlice hm rfl Try.underlying33 ti32 rfl rfl rfl (.cons rfl (.cons rfl (.cons rfl (.cons rfl (.cons rfl (.cons rfl (.cons rfl (.cons rfl (.cons rfl (.cons rfl (.cons rfl .nil))))))))))) rfl rfl rfl hS hq_1163 rfl ?_
  intro w_1159 v_1160 M_1161 hS' ho_1162
  clear hm a; intro a hm
  replace hS : Sep w0 w_1159 [N_1158, Mem.no, Mem.no, Mem.no, Mem.no, Mem.no, Mem.no, Mem.no, Mem.no, Mem.no, Mem.no, M_1161] Z := hS'
  clear hS' hq_1163
  replace hS : Sep w0 w_1159 [N_1158, M_1161] Z := hS.sel [0, 11] (by decide)
  refine s_assign hm rfl rfl ?_
  clear hm a; intro a hm
  refine wpList_nil ?_
  replace hm : Fr 138 a [(0, .int .i64 x0), (2, .bool false), (4, v_1160)] := hm.keep [0, 2, 4]
  refine x_then_n ?_
  refine wp_seq ?_
  refine wp_region_lit ?_
  refine s_move hm rfl rfl ?_
  clear hm a; intro a hm
  refine s_move hm rfl rfl ?_
  clear hm a; intro a hm
  refine s_bits (i := x0) (j := 255) (r := band .i64 x0 255) hm rfl rfl rfl (.inl ⟨rfl, rfl⟩) ?_
  clear hm a; intro a hm
  refine s_move hm rfl rfl ?_
  clear hm a; intro a hm
  refine s_lenO hm rfl Try.underlying33 rfl ho_1162 ?_
  clear hm a; intro a hm
  obtain ⟨t_1165, et_1165, H⟩ := Option.bind_eq_some_iff.1 H
  refine s_div (r := t_1165) hm rfl rfl rfl (rem_some et_1165).1 (.inr ⟨rfl, (rem_some et_1165).2⟩) ?_
  clear hm a; intro a hm
  obtain ⟨t_1166, et_1166, H⟩ := Option.bind_eq_some_iff.1 H
  refine v_indexO hm rfl Try.underlying33 ti32 rfl rfl rfl ho_1162 (hS.own 1) et_1166 ?_
  intro ad_1167 cs_1168 hk_1169 hc_1170
  obtain ⟨v_1171, rfl, hr_1172⟩ := k_An_l_mask_source_n_ok.open' hk_1169
  clear hm a; intro a hm
  refine s_load hm rfl rfl (el_agg (o := 0) (us := [v_1171, .int .i64 t_1166.mask, .int .i64 t_1166.source, .int .i64 t_1166.n, .bool t_1166.ok]) hc_1170 Try.underlying32 rfl ti32 rfl rfl) ?_
  clear hm a; intro a hm
  refine v_alloc hm rfl ti32 hS ?_
  intro w_1173 g_1174 hS'
  clear hm a; intro a hm
  replace hS : Sep w0 w_1173 [N_1158, M_1161, Mem.one g_1174 (.cells ([.slice none 0 0, .int .i64 0, .int .i64 0, .int .i64 0, .bool false] : List Value).toArray 32 (0, 0))] Z := hS'
  clear hS'
  obtain ⟨w_1175, hs', hS'⟩ := hS.store (P := Try.prog) (p := 2) (o := 0) (t := 32) (v := .agg ([v_1171, .int .i64 t_1166.mask, .int .i64 t_1166.source, .int .i64 t_1166.n, .bool t_1166.ok] : List Value).toArray) (vs := [v_1171, .int .i64 t_1166.mask, .int .i64 t_1166.source, .int .i64 t_1166.n, .bool t_1166.ok]) rfl ti32 rfl rfl rfl (by intro u hu; simp only [List.mem_cons, List.not_mem_nil, or_false] at hu; rcases hu with rfl | rfl | rfl | rfl | rfl <;> first | rfl | exact hr_1172.one)
  refine s_store hm rfl rfl hs' ?_
  replace hS : Sep w0 w_1175 [N_1158, M_1161, Mem.one g_1174 (.cells ([v_1171, .int .i64 t_1166.mask, .int .i64 t_1166.source, .int .i64 t_1166.n, .bool t_1166.ok] : List Value).toArray 32 (0, 0))] Z := hS'
  clear hs' hS'
  refine wpList_nil ?_
  replace hm : Fr 138 a [(2, .bool false), (5, .pointer (some ⟨g_1174, 0, none⟩))] := hm.keep [2, 5]
  refine x_then_n ?_
  refine wp_seq ?_
  refine wp_region_lit ?_
  refine s_fieldAddr hm rfl Try.underlying32 rfl ti31 rfl rfl ?_
  clear hm a; intro a hm
  refine s_load hm rfl rfl (hS.load_one (p := 2) rfl Try.underlying31 rfl rfl) ?_
  clear hm a; intro a hm
  obtain ⟨t_1176, et_1176, H⟩ := Option.bind_eq_some_iff.1 H
  refine s_call hm rfl Try.call16 rfl (view_Choose.calls K t_1166.l _ 5 t_1176 w0 _ _ _ (Mem.le.refl _) (hS.enter [] (by decide)) (hr_1172.mono ((Mem.le.refl _).trans (hS.new_zed []))) et_1176) ?_
  rintro _ w_1177 ⟨N_1178, rfl, hS'⟩
  clear hm a; intro a hm
  obtain ⟨N_1179, hS'', le_1179, ln_1179⟩ := hS.call [] (by decide) rfl (l' := []) (ow := []) rfl hS'
  replace hS : Sep w0 w_1177 [N_1179, M_1161, Mem.one g_1174 (.cells ([v_1171, .int .i64 t_1166.mask, .int .i64 t_1166.source, .int .i64 t_1166.n, .bool t_1166.ok] : List Value).toArray 32 (0, 0))] Z := hS''
  clear hS' hS''
  refine s_move hm rfl rfl ?_
  clear hm a; intro a hm
  refine s_extract hm rfl rfl rfl ?_
  clear hm a; intro a hm
  refine s_extract hm rfl rfl rfl ?_
  clear hm a; intro a hm
  refine s_extract hm rfl rfl rfl ?_
  clear hm a; intro a hm
  refine s_extract hm rfl rfl rfl ?_
  clear hm a; intro a hm
  refine s_assign hm rfl rfl ?_
  clear hm a; intro a hm
  refine s_assign hm rfl rfl ?_
  clear hm a; intro a hm
  refine s_assign hm rfl rfl ?_
  clear hm a; intro a hm
  refine s_assign hm rfl rfl ?_
  clear hm a; intro a hm
  refine wpList_nil ?_
  replace hm : Fr 138 a [(2, .bool false), (5, .pointer (some ⟨g_1174, 0, none⟩)), (6, .int .i64 t_1176.1), (7, .int .i64 t_1176.2.1), (8, .int .i64 t_1176.2.2.1), (9, .bool t_1176.2.2.2)] := hm.keep [2, 5, 6, 7, 8, 9]
  refine x_then_n ?_
  refine c_seq fun KJ_1180 hKJ_1180 => ?_
  refine wp_region_lit ?_
  refine s_move hm rfl rfl ?_
  clear hm a; intro a hm
  refine s_fieldAddr hm rfl Try.underlying32 rfl ti3 rfl rfl ?_
  clear hm a; intro a hm
  refine s_load hm rfl rfl (hS.load_one (p := 2) rfl Try.underlying3 rfl rfl) ?_
  clear hm a; intro a hm
  refine s_cmp (b := (t_1176.1 == t_1166.mask)) hm rfl rfl rfl (.inl ⟨rfl, rfl⟩) ?_
  clear hm a; intro a hm
  refine s_move hm rfl rfl ?_
  clear hm a; intro a hm
  by_cases hc_1181 : t_1176.1 = t_1166.mask
  · rw [if_pos hc_1181] at H
    refine s_on hm rfl rfl (beq_iff_eq.2 hc_1181) ?_
    refine s_move hm rfl rfl ?_
    clear hm a; intro a hm
    refine s_on hm rfl rfl (beq_iff_eq.2 hc_1181) ?_
    refine s_fieldAddr hm rfl Try.underlying32 rfl ti3 rfl rfl ?_
    clear hm a; intro a hm
    refine s_on hm rfl rfl (beq_iff_eq.2 hc_1181) ?_
    refine s_load hm rfl rfl (hS.load_one (p := 2) rfl Try.underlying3 rfl rfl) ?_
    clear hm a; intro a hm
    refine s_on hm rfl rfl (beq_iff_eq.2 hc_1181) ?_
    refine s_cmp (b := (t_1176.2.1 == t_1166.source)) hm rfl rfl rfl (.inl ⟨rfl, rfl⟩) ?_
    clear hm a; intro a hm
    refine s_pick_t hm rfl rfl (beq_iff_eq.2 hc_1181) rfl ?_
    clear hm a; intro a hm
    refine s_move hm rfl rfl ?_
    clear hm a; intro a hm
    by_cases hc_1182 : t_1176.2.1 = t_1166.source
    · rw [if_pos hc_1182] at H
      refine s_on hm rfl rfl (beq_iff_eq.2 hc_1182) ?_
      refine s_move hm rfl rfl ?_
      clear hm a; intro a hm
      refine s_on hm rfl rfl (beq_iff_eq.2 hc_1182) ?_
      refine s_fieldAddr hm rfl Try.underlying32 rfl ti3 rfl rfl ?_
      clear hm a; intro a hm
      refine s_on hm rfl rfl (beq_iff_eq.2 hc_1182) ?_
      refine s_load hm rfl rfl (hS.load_one (p := 2) rfl Try.underlying3 rfl rfl) ?_
      clear hm a; intro a hm
      refine s_on hm rfl rfl (beq_iff_eq.2 hc_1182) ?_
      refine s_cmp (b := (t_1176.2.2.1 == t_1166.n)) hm rfl rfl rfl (.inl ⟨rfl, rfl⟩) ?_
      clear hm a; intro a hm
      refine s_pick_t hm rfl rfl (beq_iff_eq.2 hc_1182) rfl ?_
      clear hm a; intro a hm
      refine s_move hm rfl rfl ?_
      clear hm a; intro a hm
      by_cases hc_1183 : t_1176.2.2.1 = t_1166.n
      · rw [if_pos hc_1183] at H
        refine s_on hm rfl rfl (beq_iff_eq.2 hc_1183) ?_
        refine s_move hm rfl rfl ?_
        clear hm a; intro a hm
        refine s_on hm rfl rfl (beq_iff_eq.2 hc_1183) ?_
        refine s_fieldAddr hm rfl Try.underlying32 rfl ti4 rfl rfl ?_
        clear hm a; intro a hm
        refine s_on hm rfl rfl (beq_iff_eq.2 hc_1183) ?_
        refine s_load hm rfl rfl (hS.load_one (p := 2) rfl Try.underlying4 rfl rfl) ?_
        clear hm a; intro a hm
        refine s_on hm rfl rfl (beq_iff_eq.2 hc_1183) ?_
        refine s_beq (b := (t_1176.2.2.2 == t_1166.ok)) hm rfl Try.underlying4 rfl rfl (.inl ⟨rfl, rfl⟩) ?_
        clear hm a; intro a hm
        refine s_pick_t hm rfl rfl (beq_iff_eq.2 hc_1183) rfl ?_
        clear hm a; intro a hm
        refine s_move hm rfl rfl ?_
        clear hm a; intro a hm
        by_cases hc_1184 : t_1176.2.2.2 = t_1166.ok
        · rw [if_pos hc_1184] at H
          refine s_on hm rfl rfl (beq_iff_eq.2 hc_1184) ?_
          obtain ⟨t_1185, et_1185, H⟩ := Option.bind_eq_some_iff.1 H
          refine s_call hm rfl Try.call17 rfl (hocketlaw14_awake.calls K  t_1185 w0 _ _ _ (Mem.le.refl _) (hS.enter [] (by decide))  et_1185) ?_
          rintro _ w_1186 ⟨N_1187, rfl, hS'⟩
          clear hm a; intro a hm
          obtain ⟨N_1188, hS'', le_1188, ln_1188⟩ := hS.call [] (by decide) rfl (l' := []) (ow := []) rfl hS'
          replace hS : Sep w0 w_1186 [N_1188, M_1161, Mem.one g_1174 (.cells ([v_1171, .int .i64 t_1166.mask, .int .i64 t_1166.source, .int .i64 t_1166.n, .bool t_1166.ok] : List Value).toArray 32 (0, 0))] Z := hS''
          clear hS' hS''
          refine s_pick_t hm rfl rfl (beq_iff_eq.2 hc_1184) rfl ?_
          clear hm a; intro a hm
          refine s_assign hm rfl rfl ?_
          clear hm a; intro a hm
          refine wpList_nil ?_
          replace hm : Fr 138 a [(2, .bool true)] := hm.keep [2]
          refine x_then_n (hKJ_1180 _ _ ?_)
          refine wp_ret ?_
          exact f_ret hm (rs := [.tmp 2]) rfl (.tmp rfl .nil) ⟨_, rfl, N_1188, rfl, (Sep.sel hS [0] (by decide))⟩
        · rw [if_neg hc_1184] at H
          cases H
      · rw [if_neg hc_1183] at H
        cases H
    · rw [if_neg hc_1182] at H
      cases H
  · rw [if_neg hc_1181] at H
    cases H


end Go.Proofs
